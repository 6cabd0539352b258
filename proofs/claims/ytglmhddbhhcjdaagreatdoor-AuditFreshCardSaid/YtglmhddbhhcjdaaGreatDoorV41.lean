/-
  Several texts in one: Bra, Brb, Savf, Form, Web, Pgood, StoM.
-/
import Derived.Test.YtglmhddbhhcjdaaGreatDoorV40
import Derived.Test.YtglmhddbhhcjdaaGreatDoorV39
set_option maxRecDepth 100000
set_option linter.unusedSimpArgs false
set_option maxHeartbeats 4000000
namespace Go.Proofs.YtglmhddbhhcjdaaGreatDoor
open Go.RowKit
theorem J0x{g:Ag}(h:Jb3 g=true):Jbg [Ag.zero,g]=g:=by
 show Jaq (Jaq Ag.zero Ag.zero) g=g;have e0:Jaq Ag.zero Ag.zero=Ag.zero:=by decide
 rw[e0];unfold Jaq;rw[qa2 h];unfold Jd1;rw[qa2 (show Ag.zero.c=0 from rfl)]
theorem J0y{ev:Int}{r:Rc}(h:Jat ev r=true):Jb3 r.ag=true:=by
 unfold Jat at h;simp only[qb5] at h;exact h.2
theorem J4q{ev:Int}{l:List Rc}{r:Rc}(h:Jat ev r=true)(hn:∀a∈l,a.same r=false):addR ev l r=putR r l:=by
 rw[Jtj h]
 have e:agAt l r.nm r.st=Ag.zero:=by
  unfold agAt;cases hf:Jij l r.nm r.st with
  | none=>rfl
  | some x=>
    obtain⟨z,y,w⟩:=Jed hf;have:=hn x z;rw[show x.same r=true from Rc.same_iff.2 ⟨y,w⟩] at this;cases this
 rw[e,J0x (J0y h)]
theorem J0z{ev:Int}{l:List Rc}{r:Rc}(h:Jat ev r=true)(hl:l.Pairwise Rc.lt)(hn:∀a∈l,a.same r=false):(addR ev l r).Perm (r::l):=by
 rw[J4q h hn];refine(Jjr hl).trans ?_;rw[qbv.2 (fun y hy=>by rw[Rc.same_symm,hn y hy];rfl)]
theorem Juq{ev:Int}{l:List Rc}{r:Rc}(hl:l.Pairwise Rc.lt):(addR ev l r).Pairwise Rc.lt:=by
 unfold addR;split
 · exact Jm6 hl
 · exact hl
theorem Joj{ev:Int}:∀ {rs l:List Rc},l.Pairwise Rc.lt ->(addL ev l rs).Pairwise Rc.lt
 | [],_,hl=>hl
 | r::rs,l,hl=>Joj (rs:=rs) (l:=addR ev l r) (Juq hl)
theorem Jmv{ev:Int}:∀ {rs l:List Rc},l.Pairwise Rc.lt ->rs.Pairwise Rc.lt ->(∀r∈rs,Jat ev r=true) ->(∀a∈l,∀r∈rs,a.same r=false) ->(addL ev l rs).Perm (rs++l)
 | [],_,_,_,_,_=>List.Perm.refl _
 | r ::rs,l,hl,hrs,hr,hn=>by
   rw[qa8] at hrs;have y:=J0z (hr r (by simp)) hl (fun a z=>hn a z r (by simp));refine(Jmv (rs:=rs) (l:=addR ev l r) (Juq hl) hrs.2 (fun x hx=>hr x (by simp[hx])) (fun a z x hx=> ?_)).trans ?_
   · rcases qa6.1 (y.mem_iff.1 z) with rfl | z
     · exact Rc.lt_not_same (hrs.1 x hx)
     · exact hn a z x (by simp[hx])
   · refine(y.append_left rs).trans ?_
     exact List.perm_middle
def below (n:Nat) (l:List Rc) (k:Nat):List Rc:=l.filter fun r=>decide (shO n r<k)
theorem Jwn(n:Nat)(l:List Rc):below n l 0=[]:=by
 unfold below;rw[qdr];intro a _
 simp
theorem J00{n:Nat}(hn:1<=n)(l:List Rc):below n l n=l:=by
 unfold below;rw[qbv];intro a _;exact qan (Jmm hn a).2
theorem Jwo(n:Nat)(l:List Rc)(k:Nat):(Ja4 n l k++below n l k).Perm (below n l (k+1)):=by
 unfold Ja4 below
 induction l with
 | nil=>exact List.Perm.refl _
 | cons a r ih=>
   rw[qbu,qbu,qbu];by_cases z:shO n a=k
   · rw[qa2 (qan z),qav (by simp;omega),qa2 (by simp;omega)]
     exact ih.cons a
   · rw[qav (by simpa using z)]
     by_cases y:shO n a<k
     · rw[qa2 (by simpa using y),qa2 (by simp;omega)]
       exact List.perm_middle.trans (ih.cons a)
     · rw[qav (by simpa using y),qav (by simp;omega)]
       exact ih
theorem Jok{n:Nat}{l:List Rc}{k:Nat}(h:Ja4 n l k=[]):below n l (k+1)=below n l k:=by
 unfold Ja4 at h;unfold below;rw[qdr] at h;apply qb3;intro a z;have:=h a z;simp at this
 simp
 omega
theorem Jur(n:Nat)(l:List Rc)(k:Nat):(Ja4 n l k).Sublist l:=List.filter_sublist
theorem Jq5(n:Nat)(l:List Rc)(k:Nat):(below n l k).Sublist l:=List.filter_sublist
theorem Jie{n:Nat}{l:List Rc}{k:Nat}{r:Rc}(h:r∈Ja4 n l k):r∈l/\shO n r=k:=by
 unfold Ja4 at h;rw[qbb] at h;exact⟨h.1,by simpa using h.2⟩
theorem J01{n:Nat}{l:List Rc}{k:Nat}{r:Rc}(h:r∈below n l k):r∈l/\shO n r<k:=by
 unfold below at h;rw[qbb] at h;exact⟨h.1,by simpa using h.2⟩
theorem J02{ev:Int}{n:Nat}{l:List Rc}(k:Nat)(ho:l.Pairwise Rc.lt)(hr:∀r∈l,Jat ev r=true):addL ev (below n l k) (Ja4 n l k)=below n l (k+1):=by
 have z:=ho.sublist (Jq5 n l k);have y:=ho.sublist (Jur n l k);refine Jrp (Joj z) (ho.sublist (Jq5 n l (k+1))) ?_;refine(Jmv z y (fun r hx=>hr r (Jie hx).1) (fun a ha r hx=> ?_)).trans (Jwo n l k);cases e:a.same r with
 | false=>rfl
 | true=>
   have e1:=Rc.same_iff.1 e;have e2:=(J01 ha).2;have e3:=(Jie hx).2;unfold shO at e2 e3;rw[e1.1] at e2;omega
def sumN (g:Nat ->Int):Nat ->Int
 | 0=>0
 | k+1=>sumN g k+g k
theorem Jev{f g:Nat ->Int}:∀ {n:Nat},(∀k,k<n ->f k=g k) ->sumN f n=sumN g n
 | 0,_=>rfl
 | n+1,h=>by
   unfold sumN;rw[Jev (fun k hk=>h k (by omega)),h n (by omega)]
theorem Jq6:∀n:Nat,sumN (fun _=>0) n=0
 | 0=>rfl
 | n+1=>by unfold sumN;rw[Jq6 n];rfl
theorem Jus{f:Nat ->Int}{a:Nat}(v:Int):∀ {n:Nat},a<n ->f a=0 ->sumN (fun k=>if k=a then v else f k) n=v+sumN f n
 | 0,h,_=>by omega
 | n +1,h,h0=>by
   unfold sumN;by_cases e:n=a
   · subst e
     rw[qa2 rfl,h0,Jev (f:=fun k=>if k=n then v else f k) (g:=f) (fun k hk=>qav (by omega))];omega
   · rw[qav e,Jus v (by omega) h0]
     omega
theorem Jq7{n:Nat}:∀ {cs:List (Int×Int)},cs.Pairwise (fun p q=>p.1≠q.1) ->(∀p∈cs,0<=p.1/\p.1<(n:Int)) ->Jc1 cs=sumN (fun k=>(atc cs (k:Int)+2) / 3) n
 | [],_,_=>by
   show(0:Int)=_;rw[<- Jq6 n];exact Jev (fun k _=>rfl)
 | p::r,ha,hb=>by
   rw[qa8] at ha;have x:=hb p (by simp);have y:atc r p.1=0:=Jnr (fun q hq=>fun e=>ha.1 q hq e.symm);have ih:=Jq7 ha.2 (fun q hq=>hb q (by simp[hq]));have e:p.1=((p.1.toNat:Nat):Int):=by omega
   show(p.2+2) / 3+Jc1 r=_;rw[ih,<- Jus (f:=fun k=>(atc r (k:Int)+2) / 3) (a:=p.1.toNat) ((p.2+2) / 3) (by omega) (by show(atc r ((p.1.toNat:Nat):Int)+2) / 3=0;rw[<- e,y];rfl)];refine Jev (fun k hk=> ?_);have e1:atc (p::r) (k:Int)=if p.1=(k:Int) then p.2 else atc r (k:Int):=rfl;rw[e1];by_cases z:k=p.1.toNat
   · rw[qa2 z,qa2 (by omega)]
   · rw[qav z,qav (by omega)]
theorem Jut(k j:Int):∀cs:List (Int×Int),atc (bump k cs) j=atc cs j+if j=k then 1 else 0
 | []=>by
   unfold bump atc;by_cases e:k=j
   · subst e;simp
   · rw[qav e,qav (fun h=>e h.symm)];rfl
 | p ::r=>by
   unfold bump;by_cases e:p.1=k
   · rw[qa2 e]
     unfold atc;by_cases e2:p.1=j
     · rw[qa2 e2,qa2 e2,qa2 (by omega)]
     · rw[qav e2,qav e2,qav (by omega)];omega
   · rw[qav e]
     unfold atc;by_cases e2:p.1=j
     · rw[qa2 e2,qa2 e2,qav (by omega)];omega
     · rw[qav e2,qav e2,Jut k j r]
theorem Jwp(n:Nat)(hn:1<=n)(l:List Rc)(k:Nat):atc (Jei (Jbj (n:Int) l)) (k:Int)=((Ja4 n l k).length:Int):=by
 obtain⟨m,rfl⟩:∃m:List Rc,l=m.reverse:=⟨l.reverse,by simp⟩
 induction m with
 | nil=>rfl
 | cons a r ih=>
   rw[qbw,Jg7,Jdi,Jut,Jmn,ih,show max (n:Int) 1=(n:Int) from by omega,(Jmm hn a).1];by_cases e:shO n a=k
   · rw[qa2 e,qa2 (by omega)];simp
   · rw[qav e,qav (by omega)];simp
theorem J03(n:Nat)(hn:1<=n)(l:List Rc):∀p∈Jei (Jbj (n:Int) l),0<=p.1/\p.1<(n:Int):=by
 obtain⟨m,rfl⟩:∃m:List Rc,l=m.reverse:=⟨l.reverse,by simp⟩
 induction m with
 | nil=>intro p z;cases z
 | cons a r ih=>
   intro p z;rw[qbw,Jg7,Jdi] at z;rcases Jnp z with h | h
   · rw[h,show max (n:Int) 1=(n:Int) from by omega,(Jmm hn a).1]
     have:=(Jmm hn a).2;omega
   · exact ih p h
theorem J04(n:Nat)(hn:1<=n)(l:List Rc):Jip (n:Int) l=sumN (fun k=>(sgN (Ja4 n l k).length:Int)) n:=by
 unfold Jip;rw[Jq7 (Jr0 _) (J03 n hn l)];refine Jev (fun k _=> ?_);show(atc (Jei (Jbj (n:Int) l)) (k:Int)+2) / 3=_;rw[Jwp n hn];unfold sgN;omega
theorem Jq8(a b:List Wv):needW (a++b)=needW a+needW b:=by simp[needW]
theorem Jk6(i n:Nat)(l:List Rc):∀k,(needW (Jdw i n l k):Int)=sumN (fun k=>(sgN (Ja4 n l k).length:Int)) k
 | 0=>rfl
 | k+1=>by
   rw[Jes,Jq8];unfold sumN;rw[<- Jk6 i n l k];by_cases e:Ja4 n l k=[]
   · rw[qa2 e,e];simp[needW,sgN]
   · rw[qav e];simp[needW]
theorem Ji6{t:Tv}(h:∀i,i<t.tabs.length ->1<=t.r.sh i):∀k,k<=t.tabs.length ->(needW (Jam t k):Int)=Jbx t k
 | 0,_=>rfl
 | k+1,hk=>by
   have y:=h k (by omega);obtain⟨n,z⟩:∃n:Nat,t.r.sh k=(n:Int):=⟨(t.r.sh k).toNat,by omega⟩;rw[Jdx,Jq8];unfold Jbx;rw[Int.natCast_add,Ji6 h k (by omega)];unfold Jwc;rw[z,qc0,Jk6,J04 n (by omega)]
structure Tv.Good (t:Tv):Prop where
 ck:Py.checkR t.r.nm.toList t.r.ts=(0,0)
 nm:t.r.nm.size<=maxLen
 len:t.tabs.length=t.r.ts.length
 now:0<=t.r.now/\t.r.now<=1099511627776
 flo:∀i,i<t.r.ts.length ->0<=t.r.from_ i/\t.r.from_ i<=4611686018427387904/\onB (t.r.from_ i) (t.r.ev i)=true
 ord:∀i,i<t.tabs.length ->(t.tab i).Pairwise Rc.lt
 fine:∀i,i<t.tabs.length ->∀r∈t.tab i,r.Fine/\Jat (t.r.ev i) r=true/\t.r.from_ i<=r.st
 few:∀i,i<t.tabs.length ->(t.tab i).length<=10000
theorem Tv.ext_tab{a b:Tv}(hr:a.r=b.r)(hl:a.tabs.length=b.tabs.length)(h:∀i,i<a.tabs.length ->a.tab i=b.tab i):a=b:=by
 obtain⟨ar,ta⟩:=a;obtain⟨br,tb⟩:=b;cases hr
 have e:ta=tb:=by
  apply qc5 hl;intro i z y;have:=h i z
  simpa[Tv.tab,z,y] using this
 rw[e]
section
variable {t:Tv}
theorem Tv.Good.ti(h:t.Good){i:Nat}(hi:i<t.tabs.length):∃K:i<t.r.ts.length,(t.r.ts[i]).Fine/\t.r.ev i=(t.r.ts[i]).ev/\t.r.sh i=(t.r.ts[i]).sh:=by
 have K:i<t.r.ts.length:=by rw[<- h.len];exact hi
 obtain⟨_,_,_,z,_⟩:=Py.check_fine h.ck;exact⟨K,z _ (qal K),Rch.ev_at K,Rch.sh_at K⟩
theorem Tv.Good.n(h:t.Good):1<=t.tabs.length/\t.tabs.length<=5:=by
 obtain⟨_,z,y,_,_⟩:=Py.check_fine h.ck;rw[h.len];exact⟨z,y⟩
theorem Tv.Good.sh(h:t.Good){i:Nat}(hi:i<t.tabs.length):1<=t.r.sh i/\t.r.sh i<=8:=by
 obtain⟨_,z,_,e⟩:=h.ti hi;rw[e];exact z.sh
theorem Tv.Good.ev(h:t.Good){i:Nat}(hi:i<t.tabs.length):1<=t.r.ev i/\t.r.ev i<=1000000:=by
 obtain⟨_,z,e,_⟩:=h.ti hi;rw[e];exact z.ev
theorem Tv.Good.want(h:t.Good):t.Want:=
 ⟨h.n,fun i hi=>h.sh hi,fun i hi=>by have:=h.few i hi;omega,fun i hi r hr=>(h.fine i hi r hr).1.ok⟩
theorem Juu:∀ {cs:List (Int×Int)},(∀p∈cs,1<=p.2) ->0<=Jc1 cs/\Jc1 cs<=sumC cs
 | [],_=>by simp[Jc1,sumC]
 | p::r,h=>by
   have z:=h p (by simp);have y:=Juu (fun q hq=>h q (qc6 _ hq)) (cs:=r);simp only[Jc1,sumC];omega
theorem J4r(n:Int)(l:List Rc):0<=Jip n l/\Jip n l<=l.length:=by
 have h:=Juu (Jek (Jbj n l));rw[Jej] at h;unfold Jip
 simpa[Jbj] using h
theorem Tv.Good.rare(h:t.Good):t.Few:=⟨fun i hi=>by have:=h.few i hi;omega,fun i hi=>by
 have z:=J4r (t.r.sh i) (t.tab i);have y:=h.few i hi;omega⟩
theorem Jk7{i n:Nat}{l:List Rc}{q:Nat}{x:Wv}(h:x∈Jdw i n l q):∃s,s<q/\x=(i,s,Ja4 n l s)/\Ja4 n l s≠[]:=by
 unfold Jdw at h;obtain⟨s,z,e⟩:=List.mem_filterMap.1 h;split at e
 · cases e
 · next hn=>cases e;exact⟨s,qca.1 z,rfl,hn⟩
theorem Jgr{k:Nat}{x:Wv}(h:x∈Jam t k):∃i s,i<k/\s<(t.r.sh i).toNat/\x=(i,s,Ja4 (t.r.sh i).toNat (t.tab i) s)/\Ja4 (t.r.sh i).toNat (t.tab i) s≠[]:=by
 unfold Jam at h;obtain⟨i,z,y⟩:=qcq.1 h;obtain⟨s,w,e,v⟩:=Jk7 y;exact⟨i,s,qca.1 z,w,e,v⟩
def wvLt (a b:Wv):Prop:=a.1<b.1\/a.1=b.1/\a.2.1<b.2.1
theorem Juv(i n:Nat)(l:List Rc):∀q,(Jdw i n l q).Pairwise wvLt
 | 0=>by unfold Jdw;exact List.Pairwise.nil
 | q + 1=>by
   rw[Jes,List.pairwise_append];refine⟨Juv i n l q,?_,fun a ha b hb=> ?_⟩
   · split
     · exact List.Pairwise.nil
     · exact List.pairwise_singleton _ _
   · split at hb
     · cases hb
     · rw[qaz.1 hb]
       obtain⟨s,z,rfl,_⟩:=Jk7 ha;exact .inr ⟨rfl,z⟩
theorem Jq9(t:Tv):∀k,(Jam t k).Pairwise wvLt
 | 0=>by unfold Jam;exact List.Pairwise.nil
 | k+1=>by
   rw[Jdx,List.pairwise_append];refine⟨Jq9 t k,Juv _ _ _ _,fun a ha b hb=> ?_⟩;obtain⟨i,s,z,_,rfl,_⟩:=Jgr ha;obtain⟨s',_,rfl,_⟩:=Jk7 hb;exact .inl z
theorem Tv.Good.wv(h:t.Good):WvOk (Jam t t.tabs.length):=by
 have q:=h.n
 have fit:∀x∈Jam t t.tabs.length,x.1<5/\x.2.1<8/\1<=x.2.2.length/\x.2.2.length<=10000/\(∀r∈x.2.2,r.Fine)/\x.2.2.Pairwise Rc.lt:=by
  intro x w;obtain⟨i,s,z,p,rfl,y⟩:=Jgr w;have v:=h.sh z;have o:=h.few i z;have m:=Jk2 (t.r.sh i).toNat (t.tab i) s;refine⟨by show i<5;omega,by show s<8;omega,qdo.2 y,by show(Ja4 _ _ _).length<=_;omega,fun r hr=>(h.fine i z r (Jie hr).1).1,(h.ord i z).sublist (Jur _ _ _)⟩
 refine⟨?_,fit,?_⟩
 · have:=Jmo t t.tabs.length (fun j hj=>by have:=h.sh hj;omega)
   omega
 · show List.Pairwise _ _
   rw[List.pairwise_map];refine List.Pairwise.imp_of_mem (fun {a b} ha hb hab=> ?_) (Jq9 t t.tabs.length);have l:=fit a ha;have k:=fit b hb;refine Jsj (by omega) (by omega) (by omega) (by omega) (fun e=> ?_);rcases hab with u | ⟨_,u⟩<;>omega
theorem Tv.Good.needW(h:t.Good):(needW (Jam t t.tabs.length):Int)=t.need:=Ji6 (fun _ hi=>(h.sh hi).1) _ (qab _)
end
noncomputable def ldX (t:Tv) (x:Wv):Tv:=t.setTab x.1 (addL (t.r.ev x.1) (t.tab x.1) x.2.2)
def Pm.w (p:Pm):Wv:=(p.e.tier,p.e.shard,p.l)
theorem J05(t:Tv)(x:Wv):(ldX t x).tabs.length=t.tabs.length:=Tv.setTab_len _ _ _
theorem Juw(t:Tv)(x:Wv)(h:x.1<t.tabs.length):(ldX t x).tab x.1=addL (t.r.ev x.1) (t.tab x.1) x.2.2:=Tv.setTab_same h
theorem Jra(t:Tv)(x:Wv){i:Nat}(h:i≠x.1):(ldX t x).tab i=t.tab i:=Tv.setTab_other h
theorem Jux(i:Nat):∀ (xs:List Wv) (t:Tv),((xs.foldl ldX t).tab i).length<=(t.tab i).length+(xs.map fun x=>x.2.2.length).sum
 | [],_=>qab _
 | x :: xs,t=>by
   have h:=Jux i xs (ldX t x);show((xs.foldl ldX (ldX t x)).tab i).length<=_;rw[qby,qc7]
   have :((ldX t x).tab i).length<=(t.tab i).length+x.2.2.length:=by
    by_cases e:i=x.1
    · subst e
      by_cases z:x.1<t.tabs.length
      · rw[Juw t x z];exact Jjc
      · have:(ldX t x).tab x.1=[]:=by
         unfold Tv.tab;rw[qdc,qbg (by rw[J05];omega)];rfl
        rw[this];simp
    · rw[Jra t x e];omega
   omega
theorem ldK{k n:Nat}{l:List Rc}(T:Tv)(hk:k<T.tabs.length)(h0:T.tab k=[])(ho:l.Pairwise Rc.lt)(hr:∀r∈l,Jat (T.r.ev k) r=true):∀q,
  ((Jdw k n l q).foldl ldX T).r=T.r/\((Jdw k n l q).foldl ldX T).tabs.length=T.tabs.length/\((Jdw k n l q).foldl ldX T).tab k=below n l q/\∀i,i≠k ->((Jdw k n l q).foldl ldX T).tab i=T.tab i
 | 0=>by
   unfold Jdw;exact⟨rfl,rfl,by rw[Jwn];exact h0,fun _ _=>rfl⟩
 | q +1=>by
   obtain⟨z,y,x,w⟩:=ldK T hk h0 ho hr q (n:=n);rw[Jes,qb0];generalize (Jdw k n l q).foldl ldX T=V at*;by_cases e:Ja4 n l q=[]
   · rw[qa2 e,Jok e]
     exact⟨z,y,x,w⟩
   · rw[qav e]
     show(ldX V (k,q,Ja4 n l q)).r=_/\(ldX V (k,q,Ja4 n l q)).tabs.length=_/\(ldX V (k,q,Ja4 n l q)).tab k=_/\∀i,i≠k ->(ldX V (k,q,Ja4 n l q)).tab i=_;refine⟨z,by rw[J05];exact y,?_,fun i hi=>by rw[Jra V (k,q,Ja4 n l q) hi];exact w i hi⟩;have:=Juw V (k,q,Ja4 n l q) (by rw[y];exact hk);rw[z,x] at this;rw[show(ldX V (k,q,Ja4 n l q)).tab k=_ from this];exact J02 q ho hr
theorem ldTo{t:Tv}(hg:t.Good)(T:Tv)(hl:T.tabs.length=t.tabs.length)(h0:∀i,T.tab i=[])(hev:∀i,T.r.ev i=t.r.ev i):∀k,k<=t.tabs.length ->
  ((Jam t k).foldl ldX T).r=T.r/\((Jam t k).foldl ldX T).tabs.length=T.tabs.length/\∀i,((Jam t k).foldl ldX T).tab i=if i<k then t.tab i else []
 | 0,_=>by
   unfold Jam;exact⟨rfl,rfl,fun i=>h0 i⟩
 | k +1,hk=>by
   obtain⟨z,x,y⟩:=ldTo hg T hl h0 hev k (by omega);rw[Jdx,qb0];generalize (Jam t k).foldl ldX T=V at*;have w:=hg.sh (show k<t.tabs.length by omega);obtain⟨g1,g2,g3,g4⟩:=ldK (k:=k) (n:=(t.r.sh k).toNat) (l:=t.tab k) V (by omega) (by rw[y,qav (by omega)]) (hg.ord k (by omega)) (fun r hr=>by rw[z,hev];exact(hg.fine k (by omega) r hr).2.1) (t.r.sh k).toNat;unfold Jwc;refine⟨g1.trans z,g2.trans x,fun i=> ?_⟩;by_cases e:i=k
   · subst e
     rw[g3,J00 (by omega),qa2 (by omega)]
   · rw[g4 i e,y]
     by_cases e2:i<k
     · rw[qa2 e2,qa2 (by omega)]
     · rw[qav e2,qav (by omega)]
theorem Jwq{t:Tv}(hg:t.Good)(fl:List Int):(Jam t t.tabs.length).foldl ldX ⟨⟨t.r.now,t.r.nm,t.r.ts,fl⟩,List.replicate t.r.ts.length []⟩=t.withFs fl:=by
 have z:(List.replicate t.r.ts.length ([]:List Rc)).length=t.tabs.length:=by rw[List.length_replicate,hg.len]
 have x:∀i,Tv.tab ⟨⟨t.r.now,t.r.nm,t.r.ts,fl⟩,List.replicate t.r.ts.length []⟩ i=[]:=fun i=>by
  unfold Tv.tab;simp only[qdc,List.getElem?_replicate];split<;>rfl
 obtain⟨w,y,v⟩:=ldTo hg ⟨⟨t.r.now,t.r.nm,t.r.ts,fl⟩,List.replicate t.r.ts.length []⟩ z x (fun _=>rfl) t.tabs.length (qab _);refine Tv.ext_tab w (y.trans z) (fun i hi=> ?_);rw[y,z] at hi;rw[v,qa2 hi];rfl
def savB (t:Tv) (gen:Nat) (v:SvV):List UInt8:=catB gen v.id t.r.now (Py.printL t.r.nm.toList t.r.ts) t.r.all v.es
def savF (B N:Nat) (t:Tv) (gen:Nat) (v:SvV):Int ->Option ByteArray:=
 setS (putN v.f (Jck B gen) (chC (savB t gen v)) (nbC (savB t gen v))) ((gen % 2:Nat):Int) (strOf (suB gen N (savB t gen v).length))
structure Jol (w:World) (FB FD:Nat ->Prop) (gx N C B D R gd gen mp bk q gl:Nat) (v:SvV) (ps:List Pm) (t:Tv):Prop where
 st:SvS w FB FD gx N C B D R gd gen v.id mp bk q ps.length (some ⟨gl,0,none⟩) 0 (mapOf ps) (usOf ps) none (Jc4 ps) none (savF B N t gen v)
 log:Jr8 w gl ⟨gd,0,none⟩ 2 16 gen
 es:ps.map Pm.e=v.es
theorem J8b{FB FD FT:Nat ->Prop}{gx N C B D R gd gen id mp bk q nP gs:Nat}{lg:Option Addr}{us:List Int}{a b m:Option (List Int)}{f:Int ->Option ByteArray}{t:Tv}(w:World)(h:SvS w FB FD gx N C B D R gd gen id mp bk q nP lg 0 (fun _ _=>none) us a b m f)(hL:Jd3 N C B D R)(hS:StAt w FT gs R t)(hFT:∀x,FT x ->Apart FB FD gx w x)(hW:t.Want)(hV:WvOk (Jam t t.tabs.length))(hG:Glo w)(hfit:∀v,SvG D N ⟨id,us,f,[]⟩ (Jam t t.tabs.length) v ->Jic (gen+1) v.id t.r.now t.r.nm t.r.ts t.r.all v.es/\(catB (gen+1) v.id t.r.now (Py.printL t.r.nm.toList t.r.ts) t.r.all v.es).length<=C*256)(hlow:gB<=gx/\∀x,FB x\/FD x ->gB<=x)(hid:id<1000000)(hgen:gen<1000000)(hroom:us.length+needW (Jam t t.tabs.length)<=N - D)(hq:q<=500000):
  Cs 93 #[gx,gs] w fun e w'=>∃FB' FD' mp' bk' gl ps v q',e= .returned (0:Int)/\SvG D N ⟨id,us,f,[]⟩ (Jam t t.tabs.length) v/\q'<=q+10000/\
   Jol w' FB' FD' gx N C B D R gd (gen+1) mp' bk' q' gl v ps t/\SvT w w' FB FD FB' FD' gx/\w.heap.size<=mp'/\(w.heap.size<=gl/\ ¬ FB' gl/\ ¬ FD' gl):=by
 have z:=(qaa w.heap.size w).drew;have y:gB<=gx/\∀x,FB x\/FD x ->gB<=x:=hlow;have U:=zI (J78 w.drew (h.below z) hL (hS.below z) (fun x hx=>by have k:=hFT x hx;exact⟨k.1,k.2.1,k.2.2.1,k.2.2.2⟩) hW hV (hG.below z) hfit y hid hgen hroom hq);have j:=zI h.box.lt;have T:=zI (fun W (hW:Below w.heap.size w W)=>Jjj (h.box.below hW));have S:=zI (fun W (hW:Below w.heap.size w W)=>Jqg W (hS.below hW));have x6:=h.box.at_ 6 (v:= (R:Int)) rfl;have y6:=(h.box.below z).at_ 6 (v:= (R:Int)) rfl;have x13:=(h.box.below z).at_ 13 (v:= (0:Int)) rfl;clear h hL hS hFT hW hV hG hfit hlow y hid hgen hroom z;go_enter Tryz.func93,Tryz.ntmps93;go_upto_region 1 with fail
 go_region_held3 (fun w'=>w'.cell? ⟨gx,6,none⟩=some (.int .i64 (R:Int))/\Below w.heap.size w w')
  (exact⟨y6,(qaa _ _).drew⟩)
  (first
    | (go_at_call 76
       refine(T.out _ ?hv).mono ?_
       case hv=>(go_split_ands;assumption)
       rintro e w3 ⟨rfl,rfl⟩)
    | (go_at_call 90
       refine(S.out _ ?hv).mono ?_
       case hv=>(go_split_ands;assumption)
       rintro e w3 ⟨rfl,rfl⟩))
 go_wp2_with fail
 refine U.out.mono ?_;rintro e w1 ⟨FB',FD',mp',bk',gl,ps,v,q',rfl,i,g,d,o,c,Z,Y,u⟩;have l:=zI (show w.heap.size<=mp'/\w.heap.size<=gl/\ ¬ FB' gl/\ ¬ FD' gl from⟨by simpa using Y,by simpa using u.1,u.2⟩);have y13:=o.box.at_ 13 (v:= (0:Int)) rfl;have f13:=o.box.free 13;have s:=o.boxed 13 (0:Int) (gen':=gen+1) (id':=v.id) (mp':=mp') (bk':=bk') (lg':=some ⟨gl,0,none⟩) (bad':=0) rfl rfl rfl;obtain⟨w2,n⟩:=exE (w1.setCell ⟨gx,13,none⟩ (0:Int));have V:gl≠gx:=by have k:=j.out;have I:=l.out.2.1;omega
 have P:Hid (Jr8 w2 gl ⟨gd,0,none⟩ 2 16 (gen+1)):=zI (by rw[n];exact Bx.other c (p:=⟨gx,13,none⟩) V _);rw[<- n] at s;have O:=zI n;have M:=zI (((SvT.of_below FB FD gx (qaa w.heap.size w).drew).trans Z).trans s.2);have L:=zI (show Jol w2 FB' FD' gx N C B D R gd (gen+1) mp' bk' q' gl v ps t from⟨s.1,P.out,g⟩);have z13:=s.1.box.at_ 13 (v:= (0:Int)) rfl;have K:=zI i;have J:=zI d;clear i g d o c Z Y u s n V x6 y6 x13;go_upto_region 6 with fail
 rw[<- O.out];clear y13 f13;go_wp2_with fail
 go_ret;exact⟨FB',FD',mp',bk',gl,ps,v,q',rfl,K.out,J.out,L.out,M.out,l.out.1,l.out.2⟩
theorem J06{F FT:Nat ->Prop}{gd N C B D R q gs:Nat}{f:Int ->Option ByteArray}{t:Tv}(w:World)(hD:DsAt w F gd N q f)(hL:Jd3 N C B D R)(hS:StAt w FT gs R t)(hFT:∀x,FT x -> ¬ F x)(hW:t.Want)(hV:WvOk (Jam t t.tabs.length))(hG:Glo w)(hlow:∀x,F x ->gB<=x)(hfit:∀v,SvG D N ⟨0,[],Jkz f 18,[]⟩ (Jam t t.tabs.length) v ->Jic (0+1) v.id t.r.now t.r.nm t.r.ts t.r.all v.es/\(catB (0+1) v.id t.r.now (Py.printL t.r.nm.toList t.r.ts) t.r.all v.es).length<=C*256)(hroom:needW (Jam t t.tabs.length)<=N - D)(hq:q<=400000):
  Cs 37 #[gd,gs] w fun e w'=>∃gx FB' FD' mp bk gl ps v q',e= .returned (.tuple #[(gx:Nat),(0:Int)])/\SvG D N ⟨0,[],Jkz f 18,[]⟩ (Jam t t.tabs.length) v/\q'<=q+10100/\
   Jol w' FB' FD' gx N C B D R gd 1 mp bk q' gl v ps t/\w.heap.size<=gx/\(∀x,FB' x ->w.heap.size<=x)/\(∀x,FD' x ->grow F w w' x)/\Chg F w w'/\w.heap.size<=mp/\(w.heap.size<=gl/\ ¬ FB' gl/\ ¬ FD' gl):=by
 have Hk:=zI hD.blocks;have V:=Jod N w hL.n.1 hL.n.2;rw[<- hL.d,<- hL.b,<- hL.c,<- hL.r] at V;have Hl:=zI V;clear V;have HD:=zI hD;have U:=zI hL;have E:=zI hS;have A:=zI hFT;have Hm:=zI hW;have Hn:=zI hV;have Ho:=zI hG;have hJ:=zI hlow;have T:=zI hG.low;have Hp:=zI hfit;have Hq:=zI hroom;have Hr:=zI (fun W (hW:Below w.heap.size w W)=>Jqg W (hS.below hW));clear hD hL hS hFT hW hV hG hlow hfit hroom;go_enter Tryz.func37,Tryz.ntmps37;go_wp2_with fail
 refine Hk.out.mono ?_;rintro e w1 ⟨rfl,hw⟩;subst hw;go_wp2_with fail
 refine Hl.out.mono ?_;rintro e w1 ⟨rfl,S⟩;obtain⟨g6,s⟩:=exE w1.heap.size;obtain⟨w2,g⟩:=exE (w1.alloc (.cells #[(N:Int),(2:Int),(18:Int),(B:Int),(C:Int),(D:Int),(R:Int)] 64));have P:=Bx.new w1 64 #[(N:Int),(2:Int),(18:Int),(B:Int),(C:Int),(D:Int),(R:Int)];rw[<- g,<- s] at P;have Ha:Below w.heap.size w w2:=by rw[g];exact S.alloc S.size _
 have Hs:=zI g;have O:=zI s;have Hb:Below w.heap.size w w2.drew:=Ha.drew;have o:=zI Hb;have M:=P.drew;have y:=zI M;have y6:=M.at_ 6 (v:= (R:Int)) rfl;clear S s g P Ha Hb M;go_upto_region 6 with fail
 rw[<- Hs.out,<- O.out]
 go_region_held3 (fun w'=>w'.cell? ⟨g6,6,none⟩=some (.int .i64 (R:Int))/\Below w.heap.size w w')
  (exact⟨y6,o.out⟩)
  (first
    | (go_at_call 90
       refine(Hr.out _ ?hv).mono ?_
       case hv=>(go_split_ands;assumption)
       rintro e w3 ⟨rfl,rfl⟩))
 clear y6;obtain⟨w3,Hc⟩:=exE w2.drew;rw[<- Hc] at o y ⊢;clear Hc;go_split_ands;have x0:=y.out.at_ 0 (v:= (N:Int)) rfl;have x1:=y.out.at_ 1 (v:= (2:Int)) rfl;have x2:=y.out.at_ 2 (v:= (18:Int)) rfl;have x3:=y.out.at_ 3 (v:= (B:Int)) rfl;have x4:=y.out.at_ 4 (v:= (C:Int)) rfl;have x5:=y.out.at_ 5 (v:= (D:Int)) rfl;have x6:=y.out.at_ 6 (v:= (R:Int)) rfl;have Ht:=zI (Juh N C B D R gd w3 U.out);go_wp2_with fail
 refine Ht.out.mono ?_;rintro e w4 ⟨gx,mp,bk,FB,rfl,Z⟩;have Hu:=o.out.size;have L:=o.out.trans (Z.bel.mono o.out.size);have K:=Z.low;have m:∀x,F x ->x<w.heap.size:=HD.out.ins;have Kg:=zI m
 have l:SvS w4 FB F gx N C B D R gd 0 0 mp bk q 0 none 0 (fun _ _=>none) [] none none none f:=
  ⟨Z.box,Z.map,Z.book,HD.out.below L,fun x z hd=>by have h1:=K.2.2 x z;have h2:=m x hd;omega,⟨Z.ne.1,fun h=>by have h2:=m _ h;omega⟩,⟨Z.ne.2,fun h=>by have h2:=m _ h;omega⟩⟩
 have Hv:=zI l;have a:=zI L;have k:=zI (show w.heap.size<=gx/\∀x,FB x ->w.heap.size<=x from⟨by omega,fun x z=>by have h1:=K.2.2 x z;omega⟩);have Hw:=zI (J7r w4 l.box l.ngx.2 (by have:=U.out.n;omega) l.disk (by omega));clear Z Hu L K m l x0 x1 x2 x3 x4 x5 x6;go_wp2_with fail
 refine Hw.out.mono ?_;rintro e w5 ⟨rfl,j⟩;have p:=Hv.out.disked j;obtain⟨FD5,u⟩:=exE (grow F w4 w5);rw[<- u] at p;have Hx:=a.out.size;have J:=p.2.chg.size;have I:=k.out;have Hy:=p.1.box.lt;have H:=zI (show ∀x,FD5 x ->F x\/w.heap.size<=x from fun x z=>by rw[u] at z;exact z.imp (fun h=>h) (fun h=>by have:=h.1;omega))
 have Hz:=zI (show ∀x,FT x ->Apart FB FD5 gx w5 x from fun x z=>by
  have h1:=E.out.ins x z;refine⟨fun h=> ?_,fun h=> ?_,by omega,by omega⟩
  · have:=I.2 x h;omega
  · rcases H.out x h with h | h
    · exact A.out x z h
    · omega)
 have Y:=(E.out.below a.out).chg j.chg (fun x z hf=>A.out x z hf);have Hd:=(Ho.out.below a.out).chg j.chg (fun x z=>hJ.out x z)
 have H0:=zI (J8b w5 p.1 U.out Y Hz.out Hm.out Hn.out Hd Hp.out ⟨by have:=T.out;omega,fun x z=>by
  rcases z with z | z
  · have h1:=I.2 x z;have:=T.out;omega
  · rcases H.out x z with h | h
    · exact hJ.out x h
    · have:=T.out;omega⟩ (by omega) (by omega) (by have:=Hq.out;simp;omega) (by omega))
 have Kh:=zI p.1;have He:=zI (show Chg F w w5 from(Chg.of_below a.out).trans j.chg (fun x h=> .inl h));have H9:=zI (show ∀x,FD5 x ->grow F w w5 x from fun x z=>by rw[u] at z;exact z.imp (fun h=>h) (fun h=>⟨by have:=h.1;omega,h.2⟩));clear j p u Hx J I Hy Y Hd;go_wp2_with fail
 refine H0.out.mono ?_;rintro e w6 ⟨FB',FD',mp',bk',gl,ps,v,q',rfl,s,Hf,Hg,i,Ka,G⟩;have J:=He.out.size;have Hh:=i.chg.size;have O:=zI s;have Hi:=G.1;have Hj:=zI (show w.heap.size<=mp'/\w.heap.size<=gl/\ ¬ FB' gl/\ ¬ FD' gl from⟨by omega,by omega,G.2⟩);have Kb:=zI Hg;have Kc:=zI Hf
 have Kd:=zI (show ∀x,FB' x ->w.heap.size<=x from fun x z=>by
  rcases i.fb x z with h | h
  · exact k.out.2 x h
  · have:=h.1;omega)
 have Ke:=zI (show ∀x,FD' x ->grow F w w6 x from fun x z=>by
  rcases i.fd x z with h | h
  · exact Jcg (H9.out x h) Hh
  · exact .inr ⟨by have:=h.1;omega,h.2⟩)
 have Kf:=zI (show Chg F w w6 from He.out.trans i.chg (fun x z=>by
  rcases z with rfl | z | z
  · exact .inr k.out.1
  · exact .inr (k.out.2 x z)
  · exact H.out x z))
 clear s Hf Hg i J Hh Ka G Hi;go_wp2_with fail
 go_ret2;exact⟨gx,FB',FD',mp',bk',gl,ps,v,q',rfl,O.out,by have:=Kc.out;omega,Kb.out,k.out.1,Kd.out,Ke.out,Kf.out,Hj.out.1,Hj.out.2⟩
def webT:Tv:=Tv.new ⟨Py.webNm.toArray⟩ Py.webTs 0
theorem Jk8(i:Nat):webT.r.from_ i=0:=by
 match i with
 | 0=>decide
 | 1=>decide
 | k+2=>rfl
theorem Jjm(i:Nat):webT.tab i=[]:=by
 match i with
 | 0=>rfl
 | 1=>rfl
 | k+2=>rfl
theorem Jwr:webT.r.nm.size<=maxLen:=by show(3:Nat)<=maxLen;unfold maxLen;omega
theorem Jaz:webT.Good:=by
 refine⟨by show Py.checkR (⟨Py.webNm.toArray⟩:ByteArray).toList Py.webTs=(0,0);rw[Py.toList_mk];exact Py.web_check,Jwr,rfl,⟨by decide,by decide⟩,fun i z=> ?_,fun i _=> ?_,fun i _ r hr=> ?_,fun i _=> ?_⟩
 · rw[Jk8]
   refine⟨by omega,by omega,?_⟩;have z:i<2:=z
   match i with
   | 0=>decide
   | 1=>decide
 · rw[Jjm];exact List.Pairwise.nil
 · rw[Jjm] at hr;cases hr
 · rw[Jjm];exact qaq _
theorem J8c(v:Int):ofL [v]=oneG v:=by
 show Jd1 Ag.zero (oneG v)=_;unfold Jd1;rw[qa2 (show Ag.zero.c=0 from rfl)]
theorem Jmw(v:Int):Jb3 (oneG v)=true:=by
 unfold Jb3 oneG;exact qan ⟨by show(1:Int)<=1;omega,by show(1:Int)<=4611686018427387904;omega,Int.le_refl _⟩
theorem Jf6:webT.need=0:=rfl
theorem Jsy{a b:Ag}(hb:Jb3 b=true):Jb3 (Jbg [a,b])=true:=by
 have w:=Jga hb
 have e:Jbg [a,b]=Jd1 (Jaq Ag.zero a) b:=by
  show Jaq (Jaq Ag.zero a) b=_;generalize Jaq Ag.zero a=s;unfold Jaq;rw[qa2 hb]
 rw[e]
 have z:(Jaq Ag.zero a).c=0\/1<=(Jaq Ag.zero a).c/\(Jaq Ag.zero a).mn<=(Jaq Ag.zero a).mx:=by
  unfold Jaq;split
  · next h=>
    have y:=Jga h;have:Jd1 Ag.zero a=a:=qa2 rfl;rw[this];exact .inr ⟨y.1,y.2.2⟩
  · exact .inl rfl
 generalize Jaq Ag.zero a=s at*;unfold Jd1;by_cases x:s.c=0
 · rw[qa2 x];exact hb
 · rw[qav x]
   unfold Jb3;rcases z with z | ⟨y,v⟩
   · exact absurd z x
   · refine qan ⟨?_,?_,?_⟩
     · dsimp only;split<;>omega
     · dsimp only;split<;>omega
     · dsimp only;omega
theorem J4s{l:List Rc}(h:∀r∈l,r.Fine)(s:ByteArray)(n:Int):(agAt l s n).Fit:=by
 unfold agAt;cases hf:Jij l s n with
 | none=>exact Ag.Fit.zero
 | some r=>exact(h r (Jed hf).1).ok.ag
theorem J4t{ev:Int}{l:List Rc}{r z:Rc}(hz:z∈addR ev l r):z∈l\/Jat ev r=true/\z=⟨r.nm,r.st,Jbg [agAt l r.nm r.st,r.ag]⟩:=by
 unfold addR at hz;split at hz
 · next h=>exact(Jja hz).elim (fun e=> .inr ⟨h,e⟩) .inl
 · exact .inl hz
theorem J07{ev fr:Int}{l:List Rc}{r:Rc}(hl:∀z∈l,z.Fine/\Jat ev z=true/\fr<=z.st)(hr:r.Fine)(hf:fr<=r.st):∀z∈addR ev l r,z.Fine/\Jat ev z=true/\fr<=z.st:=by
 intro z x;rcases J4t x with h | ⟨y,rfl⟩
 · exact hl z h
 · have w:=Jsy (a:=agAt l r.nm r.st) hr.ag
   refine⟨⟨⟨hr.ok.nm,hr.ok.st,Ag.Fit.merge fun a ha=> ?_⟩,hr.nm,hr.st,w⟩,?_,hf⟩
   · simp only[qa6,List.not_mem_nil,or_false] at ha
     rcases ha with rfl | rfl
     · exact(J4s (fun z x=>(hl z x).1) _ _).ok
     · exact hr.ok.ag.ok
   · unfold Jat at y ⊢
     simp only[qb5] at y ⊢;exact⟨y.1,w⟩
theorem J9p{t e:Int}(h:0<=t)(he:1<=e):onB (flr t e) e=true:=by
 have z:=Jjv h he;refine qan ⟨he,?_⟩;rw[Jjb z.1];unfold flr;have:=Int.emod_add_mul_ediv t e;rw[show t - t % e=e*(t / e) from by omega];exact Int.mul_emod_right _ _
section
variable {t:Tv}
theorem J4u(hg:t.Good){s:Smp}(hs:t.r.Gets s){i:Nat}(hi:i<t.tabs.length)(hh:t.r.has (i:Int) s.tm=true):(t.r.rec_ i s).Fine/\Jat (t.r.ev i) (t.r.rec_ i s)=true/\t.r.from_ i<=(t.r.rec_ i s).st:=by
 obtain⟨K,_⟩:=hg.ti hi;have w:=hg.ev hi;have q:isB t.r.ts.length (i:Int)=true:=Jxd K;have y:=hs.tm;have p:=hg.now
 have e1:t.r.start (i:Int) s.tm=flr s.tm (t.r.ev i):=by
  unfold Rch.start;rw[qa2 ⟨q,y.1⟩];show flrE s.tm (((t.r.ts[(i:Int).toNat]?).map Ti.ev).getD 0)=_;rw[qc0];show flrE s.tm (t.r.ev i)=_;unfold flrE;rw[qav (by omega)]
 have v:=Jjv y.1 w.1
 have u:t.r.from_ i<=flr s.tm (t.r.ev i):=by
  unfold Rch.has at hh;simp only[qb5,qba] at hh;have:=hh.2;unfold Rch.fromI at this;rw[qa2 q,qc0,e1] at this;exact this
 have z:(t.r.rec_ i s).st=flr s.tm (t.r.ev i):=e1;have x:(t.r.rec_ i s).ag=oneG s.vl:=J8c s.vl
 have o:s.nm.size<=15:=by
  have h:=hs.nm;unfold Jaf at h;simp only[qb5,qba,Jac] at h;exact h.1.2
 refine⟨⟨⟨by show s.nm.size<=maxLen;unfold maxLen;omega,by rw[z];exact Jca (by omega),by rw[x];exact Ag.Fit.one hs.ok.vl⟩,hs.nm,by rw[z];omega,by rw[x];exact Jmw _⟩,?_,by rw[z];exact u⟩;unfold Jat;rw[show(t.r.rec_ i s).nm=s.nm from rfl,z,x,hs.nm,Jmw,J9p y.1 w.1];simp[v.1]
theorem Jmx(hg:t.Good){s:Smp}(hs:t.r.Gets s):∀k,k<=t.tabs.length ->∀i,i<t.tabs.length ->((t.putTo s k).tab i).Pairwise Rc.lt/\∀z∈(t.putTo s k).tab i,z.Fine/\Jat (t.r.ev i) z=true/\t.r.from_ i<=z.st
 | 0,_,i,hi=>⟨hg.ord i hi,hg.fine i hi⟩
 | k + 1,hk,i,hi=>by
   have ih:=Jmx hg hs k (by omega) i hi;simp only[Tv.putTo];split
   · next hh=>
     by_cases e:i=k
     · subst e
       rw[Tv.setTab_same (by rw[Tv.putTo_len];exact hi)];have y:=J4u hg hs hi hh;exact⟨Joj ih.1,J07 ih.2 y.1 y.2.2⟩
     · rw[Tv.setTab_other e];exact ih
   · exact ih
theorem J08(hg:t.Good){s:Smp}(hs:t.r.Gets s)(hfew:∀i,i<t.tabs.length ->(t.tab i).length<=9999):(t.put1 s).Good:=by
 have z:=t.putTo_r s t.tabs.length;have y:=t.putTo_len s t.tabs.length;have x:=fun i hi=>Jmx hg hs t.tabs.length (qab _) i hi;have w:=fun i hi=>(Tv.putTo_few (s:=s) hfew t.tabs.length i hi).1;show(t.putTo s t.tabs.length).Good;refine⟨by rw[z];exact hg.ck,by rw[z];exact hg.nm,by rw[z,y];exact hg.len,by rw[z];exact hg.now,by rw[z];exact hg.flo,fun i hi=> ?_,fun i hi=> ?_,fun i hi=> ?_⟩
 · rw[y] at hi;exact(x i hi).1
 · rw[y] at hi;rw[z];exact(x i hi).2
 · rw[y] at hi;exact w i hi
theorem Jom:∀ {l:List Smp} {t:Tv} {N:Nat},t.Good ->(∀s∈l,t.r.Gets s) ->(∀i,i<t.tabs.length ->(t.tab i).length<=N) ->N+l.length<=10000 ->(t.put l).Good
 | [],_,_,hg,_,_,_=>hg
 | s::l,t,N,hg,hs,hN,hn=>by
   rw[qa3] at hn;have z:=J08 hg (hs s (by simp)) (fun i hi=>by have:=hN i hi;omega);have y:(t.put1 s).r=t.r:=t.putTo_r s t.tabs.length;have w:(t.put1 s).tabs.length=t.tabs.length:=t.putTo_len s t.tabs.length;exact Jom (l:=l) (N:=N+1) z (fun x hx=>by rw[y];exact hs x (by simp[hx])) (fun i hi=>by rw[w] at hi;exact(Tv.putTo_few (s:=s) hN t.tabs.length i hi).1) (by omega)
end
def webN (now:Int):Tv:=⟨⟨now,⟨Py.webNm.toArray⟩,Py.webTs,[]⟩,[[],[]]⟩
theorem Jif(now:Int)(i:Nat):(webN now).tab i=[]:=by
 match i with
 | 0=>rfl
 | 1=>rfl
 | k+2=>rfl
theorem Jk9{now:Int}(h:0<=now/\now<=1099511627776):(webN now).Good:=by
 have z:=Jaz;refine⟨z.ck,z.nm,rfl,h,fun i y=> ?_,fun i _=> ?_,fun i _ r hr=> ?_,fun i _=> ?_⟩
 · have y:i<2:=y
   have key:∀kp e:Int,0<=kp ->kp<=100000 ->(e=1\/e=10) ->0<=Jc5 now kp 10/\Jc5 now kp 10<=4611686018427387904/\onB (Jc5 now kp 10) e=true:=by
    intro kp e u s x;unfold Jc5;by_cases w:now<0\/kp<0\/(10:Int)<1\/now<kp
    · rw[qa2 w]
      refine⟨by omega,by omega,?_⟩;rcases x with rfl | rfl<;>decide
    · rw[qav w]
      have v:=Jjv (t:=now - kp) (e:=10) (by omega) (by omega);refine⟨v.1,by omega,qan ⟨by omega,?_⟩⟩;rw[Jjb v.1];unfold flr;rcases x with rfl | rfl<;>omega
   match i with
   | 0=>exact key 100 1 (by omega) (by omega) (.inl rfl)
   | 1=>exact key 1000 10 (by omega) (by omega) (.inr rfl)
 · rw[Jif];exact List.Pairwise.nil
 · rw[Jif] at hr;cases hr
 · rw[Jif];exact qaq _
section
variable {w:World} {g N C B D R gen id mp bk:Nat} {d:Addr} {lg:Option Addr} {bad:Int}
theorem J8d(h:Bo w g (Jdv N C B D R d gen id mp bk lg bad)):
  Cs 136 #[g] w (RS w (.int .u64 (gen:Int))):=by
 have z:=zI (Jjj h);have x8:=h.at_ 8 (v:= .int .u64 (gen:Int)) rfl;clear h;go_enter Tryz.func136,Tryz.ntmps136;go_wp2_with fail
 refine z.out.mono ?_;rintro e w1 ⟨rfl,y⟩;subst y;go_wp2_with fail
 go_ret;exact⟨rfl,rfl⟩
end
theorem Jrb{FB FD:Nat ->Prop}{gx N C B D R gd gen id mp bk q nP:Nat}{lg:Option Addr}{bad:Int}{pf:Nat ->Nat ->Option PRaw}{us:List Int}{a b m:Option (List Int)}{f:Int ->Option ByteArray}(s:ByteArray)(w:World)(h:SvS w FB FD gx N C B D R gd gen id mp bk q nP lg bad pf us a b m f)(hs:s.size<=maxLen):
  Cs 26 #[gx,s] w fun e w'=>∃v,e= .returned v/\w'.ownsRow w.heap.size 3 1 v (Led.heldV (Led.w3 a b m) s.data.toList).length ((Led.heldV (Led.w3 a b m) s.data.toList).map (Value.int .i64))/\Below w.heap.size w w':=by
 have x:=zI (Jjj h.box);have u:=zI (Led.holds_b s w h.book hs);have x11:=h.box.at_ 11 (v:= bk) rfl;clear h hs;go_enter Tryz.func26,Tryz.ntmps26;go_wp2_with fail
 refine x.out.mono ?_;rintro e w1 ⟨rfl,t⟩;subst t;go_wp2_with fail
 refine u.out.mono ?_;rintro e w1 ⟨v,rfl,z,y⟩;have r:=zI z;have p:=zI y;clear z y x11;go_wp2_with fail
 go_ret;exact⟨v,rfl,r.out,p.out⟩
end Go.Proofs.YtglmhddbhhcjdaaGreatDoor
