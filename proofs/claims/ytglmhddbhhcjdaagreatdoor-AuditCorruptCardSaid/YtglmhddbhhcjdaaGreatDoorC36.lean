/- Laws that the walk of the last text wants. -/
import Derived.Test.YtglmhddbhhcjdaaGreatDoorC32
import Derived.Test.YtglmhddbhhcjdaaGreatDoorC35
set_option maxRecDepth 100000
set_option linter.unusedSimpArgs false
set_option maxHeartbeats 4000000
namespace Go.Proofs.YtglmhddbhhcjdaaGreatDoor
open Go.RowKit
theorem J1d{g:Ag}(h:Jbx g=true):Jbf [Ag.zero,g]=g:=by
 show Jaq (Jaq Ag.zero Ag.zero) g=g;have e0:Jaq Ag.zero Ag.zero=Ag.zero:=by decide
 rw[e0];unfold Jaq;rw[qa0 h];unfold Jd9;rw[qa0 (show Ag.zero.c=0 from rfl)]
theorem J1e{ev:Int}{r:Rc}(h:Jau ev r=true):Jbx r.ag=true:=by
 unfold Jau at h;simp only[qb1] at h;exact h.2
theorem J47{ev:Int}{l:List Rc}{r:Rc}(h:Jau ev r=true)(hn:∀a∈l,a.same r=false):addR ev l r=putR r l:=by
 rw[Jt4 h]
 have e:agAt l r.nm r.st=Ag.zero:=by
  unfold agAt;cases hf:Jiq l r.nm r.st with
  | none=>rfl
  | some x=>
    obtain⟨z,y,w⟩:=Jek hf;have:=hn x z;rw[show x.same r=true from Rc.same_iff.2 ⟨y,w⟩] at this;cases this
 rw[e,J1d (J1e h)]
theorem J1f{ev:Int}{l:List Rc}{r:Rc}(h:Jau ev r=true)(hl:l.Pairwise Rc.lt)(hn:∀a∈l,a.same r=false):(addR ev l r).Perm (r::l):=by
 rw[J47 h hn];refine(Jka hl).trans ?_;rw[qbx.2 (fun y hy=>by rw[Rc.same_symm,hn y hy];rfl)]
theorem Ju7{ev:Int}{l:List Rc}{r:Rc}(hl:l.Pairwise Rc.lt):(addR ev l r).Pairwise Rc.lt:=by
 unfold addR;split
 · exact Jnl hl
 · exact hl
theorem Jos{ev:Int}:∀ {rs l:List Rc},l.Pairwise Rc.lt ->(addL ev l rs).Pairwise Rc.lt
 | [],_,hl=>hl
 | r::rs,l,hl=>Jos (rs:=rs) (l:=addR ev l r) (Ju7 hl)
theorem Jm7{ev:Int}:∀ {rs l:List Rc},l.Pairwise Rc.lt ->rs.Pairwise Rc.lt ->(∀r∈rs,Jau ev r=true) ->(∀a∈l,∀r∈rs,a.same r=false) ->(addL ev l rs).Perm (rs++l)
 | [],_,_,_,_,_=>List.Perm.refl _
 | r ::rs,l,hl,hrs,hr,hn=>by
   rw[qa9] at hrs;have y:=J1f (hr r (by simp)) hl (fun a z=>hn a z r (by simp));refine(Jm7 (rs:=rs) (l:=addR ev l r) (Ju7 hl) hrs.2 (fun x hx=>hr x (by simp[hx])) (fun a z x hx=> ?_)).trans ?_
   · rcases qbb.1 (y.mem_iff.1 z) with rfl | z
     · exact Rc.lt_not_same (hrs.1 x hx)
     · exact hn a z x (by simp[hx])
   · refine(y.append_left rs).trans ?_
     exact List.perm_middle
def below (n:Nat) (l:List Rc) (k:Nat):List Rc:=l.filter fun r=>decide (shO n r<k)
theorem Jw5(n:Nat)(l:List Rc):below n l 0=[]:=by
 unfold below;rw[qds];intro a _
 simp
theorem J1g{n:Nat}(hn:1<=n)(l:List Rc):below n l n=l:=by
 unfold below;rw[qbx];intro a _;exact qaj (Jm2 hn a).2
theorem Jw6(n:Nat)(l:List Rc)(k:Nat):(Ja4 n l k++below n l k).Perm (below n l (k+1)):=by
 unfold Ja4 below
 induction l with
 | nil=>exact List.Perm.refl _
 | cons a r ih=>
   rw[qbv,qbv,qbv];by_cases z:shO n a=k
   · rw[qa0 (qaj z),qay (by simp;omega),qa0 (by simp;omega)]
     exact ih.cons a
   · rw[qay (by simpa using z)]
     by_cases y:shO n a<k
     · rw[qa0 (by simpa using y),qa0 (by simp;omega)]
       exact List.perm_middle.trans (ih.cons a)
     · rw[qay (by simpa using y),qay (by simp;omega)]
       exact ih
theorem Jot{n:Nat}{l:List Rc}{k:Nat}(h:Ja4 n l k=[]):below n l (k+1)=below n l k:=by
 unfold Ja4 at h;unfold below;rw[qds] at h;apply qb9;intro a z;have:=h a z;simp at this
 simp
 omega
theorem Ju8(n:Nat)(l:List Rc)(k:Nat):(Ja4 n l k).Sublist l:=List.filter_sublist
theorem Jq5(n:Nat)(l:List Rc)(k:Nat):(below n l k).Sublist l:=List.filter_sublist
theorem Jim{n:Nat}{l:List Rc}{k:Nat}{r:Rc}(h:r∈Ja4 n l k):r∈l/\shO n r=k:=by
 unfold Ja4 at h;rw[qbf] at h;exact⟨h.1,by simpa using h.2⟩
theorem J1h{n:Nat}{l:List Rc}{k:Nat}{r:Rc}(h:r∈below n l k):r∈l/\shO n r<k:=by
 unfold below at h;rw[qbf] at h;exact⟨h.1,by simpa using h.2⟩
theorem J1i{ev:Int}{n:Nat}{l:List Rc}(k:Nat)(ho:l.Pairwise Rc.lt)(hr:∀r∈l,Jau ev r=true):addL ev (below n l k) (Ja4 n l k)=below n l (k+1):=by
 have z:=ho.sublist (Jq5 n l k);have y:=ho.sublist (Ju8 n l k);refine Jrz (Jos z) (ho.sublist (Jq5 n l (k+1))) ?_;refine(Jm7 z y (fun r hx=>hr r (Jim hx).1) (fun a ha r hx=> ?_)).trans (Jw6 n l k);cases e:a.same r with
 | false=>rfl
 | true=>
   have e1:=Rc.same_iff.1 e;have e2:=(J1h ha).2;have e3:=(Jim hx).2;unfold shO at e2 e3;rw[e1.1] at e2;omega
def sumN (g:Nat ->Int):Nat ->Int
 | 0=>0
 | k+1=>sumN g k+g k
theorem Jex{f g:Nat ->Int}:∀ {n:Nat},(∀k,k<n ->f k=g k) ->sumN f n=sumN g n
 | 0,_=>rfl
 | n+1,h=>by
   unfold sumN;rw[Jex (fun k hk=>h k (by omega)),h n (by omega)]
theorem Jq6:∀n:Nat,sumN (fun _=>0) n=0
 | 0=>rfl
 | n+1=>by unfold sumN;rw[Jq6 n];rfl
theorem Ju9{f:Nat ->Int}{a:Nat}(v:Int):∀ {n:Nat},a<n ->f a=0 ->sumN (fun k=>if k=a then v else f k) n=v+sumN f n
 | 0,h,_=>by omega
 | n +1,h,h0=>by
   unfold sumN;by_cases e:n=a
   · subst e
     rw[qa0 rfl,h0,Jex (f:=fun k=>if k=n then v else f k) (g:=f) (fun k hk=>qay (by omega))];omega
   · rw[qay e,Ju9 v (by omega) h0]
     omega
theorem Jq7{n:Nat}:∀ {cs:List (Int×Int)},cs.Pairwise (fun p q=>p.1≠q.1) ->(∀p∈cs,0<=p.1/\p.1<(n:Int)) ->Jc6 cs=sumN (fun k=>(atc cs (k:Int)+2) / 3) n
 | [],_,_=>by
   show(0:Int)=_;rw[<- Jq6 n];exact Jex (fun k _=>rfl)
 | p::r,ha,hb=>by
   rw[qa9] at ha;have x:=hb p (by simp);have y:atc r p.1=0:=Jn6 (fun q hq=>fun e=>ha.1 q hq e.symm);have ih:=Jq7 ha.2 (fun q hq=>hb q (by simp[hq]));have e:p.1=((p.1.toNat:Nat):Int):=by omega
   show(p.2+2) / 3+Jc6 r=_;rw[ih,<- Ju9 (f:=fun k=>(atc r (k:Int)+2) / 3) (a:=p.1.toNat) ((p.2+2) / 3) (by omega) (by show(atc r ((p.1.toNat:Nat):Int)+2) / 3=0;rw[<- e,y];rfl)];refine Jex (fun k hk=> ?_);have e1:atc (p::r) (k:Int)=if p.1=(k:Int) then p.2 else atc r (k:Int):=rfl;rw[e1];by_cases z:k=p.1.toNat
   · rw[qa0 z,qa0 (by omega)]
   · rw[qay z,qay (by omega)]
theorem Jva(k j:Int):∀cs:List (Int×Int),atc (bump k cs) j=atc cs j+if j=k then 1 else 0
 | []=>by
   unfold bump atc;by_cases e:k=j
   · subst e;simp
   · rw[qay e,qay (fun h=>e h.symm)];rfl
 | p ::r=>by
   unfold bump;by_cases e:p.1=k
   · rw[qa0 e]
     unfold atc;by_cases e2:p.1=j
     · rw[qa0 e2,qa0 e2,qa0 (by omega)]
     · rw[qay e2,qay e2,qay (by omega)];omega
   · rw[qay e]
     unfold atc;by_cases e2:p.1=j
     · rw[qa0 e2,qa0 e2,qay (by omega)];omega
     · rw[qay e2,qay e2,Jva k j r]
theorem Jw7(n:Nat)(hn:1<=n)(l:List Rc)(k:Nat):atc (Jep (Jbk (n:Int) l)) (k:Int)=((Ja4 n l k).length:Int):=by
 obtain⟨m,rfl⟩:∃m:List Rc,l=m.reverse:=⟨l.reverse,by simp⟩
 induction m with
 | nil=>rfl
 | cons a r ih=>
   rw[qby,Jhd,Jdo,Jva,Jm3,ih,show max (n:Int) 1=(n:Int) from by omega,(Jm2 hn a).1];by_cases e:shO n a=k
   · rw[qa0 e,qa0 (by omega)];simp
   · rw[qay e,qay (by omega)];simp
theorem J1j(n:Nat)(hn:1<=n)(l:List Rc):∀p∈Jep (Jbk (n:Int) l),0<=p.1/\p.1<(n:Int):=by
 obtain⟨m,rfl⟩:∃m:List Rc,l=m.reverse:=⟨l.reverse,by simp⟩
 induction m with
 | nil=>intro p z;cases z
 | cons a r ih=>
   intro p z;rw[qby,Jhd,Jdo] at z;rcases Jn4 z with h | h
   · rw[h,show max (n:Int) 1=(n:Int) from by omega,(Jm2 hn a).1]
     have:=(Jm2 hn a).2;omega
   · exact ih p h
theorem J1k(n:Nat)(hn:1<=n)(l:List Rc):Jix (n:Int) l=sumN (fun k=>(sgN (Ja4 n l k).length:Int)) n:=by
 unfold Jix;rw[Jq7 (Jsc _) (J1j n hn l)];refine Jex (fun k _=> ?_);show(atc (Jep (Jbk (n:Int) l)) (k:Int)+2) / 3=_;rw[Jw7 n hn];unfold sgN;omega
theorem Jq8(a b:List Wv):needW (a++b)=needW a+needW b:=by simp[needW]
theorem Jlo(i n:Nat)(l:List Rc):∀k,(needW (Jd5 i n l k):Int)=sumN (fun k=>(sgN (Ja4 n l k).length:Int)) k
 | 0=>rfl
 | k+1=>by
   rw[Jew,Jq8];unfold sumN;rw[<- Jlo i n l k];by_cases e:Ja4 n l k=[]
   · rw[qa0 e,e];simp[needW,sgN]
   · rw[qay e];simp[needW]
theorem Jjj{t:Tv}(h:∀i,i<t.tabs.length ->1<=t.r.sh i):∀k,k<=t.tabs.length ->(needW (Jak t k):Int)=Jbs t k
 | 0,_=>rfl
 | k+1,hk=>by
   have y:=h k (by omega);obtain⟨n,z⟩:∃n:Nat,t.r.sh k=(n:Int):=⟨(t.r.sh k).toNat,by omega⟩;rw[Jd6,Jq8];unfold Jbs;rw[Int.natCast_add,Jjj h k (by omega)];unfold Jww;rw[z,qc3,Jlo,J1k n (by omega)]
structure Tv.Good (t:Tv):Prop where
 ck:Py.checkR t.r.nm.toList t.r.ts=(0,0)
 nm:t.r.nm.size<=maxLen
 len:t.tabs.length=t.r.ts.length
 now:0<=t.r.now/\t.r.now<=1099511627776
 flo:∀i,i<t.r.ts.length ->0<=t.r.from_ i/\t.r.from_ i<=4611686018427387904/\onB (t.r.from_ i) (t.r.ev i)=true
 ord:∀i,i<t.tabs.length ->(t.tab i).Pairwise Rc.lt
 fine:∀i,i<t.tabs.length ->∀r∈t.tab i,r.Fine/\Jau (t.r.ev i) r=true/\t.r.from_ i<=r.st
 few:∀i,i<t.tabs.length ->(t.tab i).length<=10000
theorem Tv.ext_tab{a b:Tv}(hr:a.r=b.r)(hl:a.tabs.length=b.tabs.length)(h:∀i,i<a.tabs.length ->a.tab i=b.tab i):a=b:=by
 obtain⟨ar,ta⟩:=a;obtain⟨br,tb⟩:=b;cases hr
 have e:ta=tb:=by
  apply qc7 hl;intro i z y;have:=h i z
  simpa[Tv.tab,z,y] using this
 rw[e]
section
variable {t:Tv}
theorem Tv.Good.ti(h:t.Good){i:Nat}(hi:i<t.tabs.length):∃K:i<t.r.ts.length,(t.r.ts[i]).Fine/\t.r.ev i=(t.r.ts[i]).ev/\t.r.sh i=(t.r.ts[i]).sh:=by
 have K:i<t.r.ts.length:=by rw[<- h.len];exact hi
 obtain⟨_,_,_,z,_⟩:=Py.check_fine h.ck;exact⟨K,z _ (qan K),Rch.ev_at K,Rch.sh_at K⟩
theorem Tv.Good.n(h:t.Good):1<=t.tabs.length/\t.tabs.length<=5:=by
 obtain⟨_,z,y,_,_⟩:=Py.check_fine h.ck;rw[h.len];exact⟨z,y⟩
theorem Tv.Good.sh(h:t.Good){i:Nat}(hi:i<t.tabs.length):1<=t.r.sh i/\t.r.sh i<=8:=by
 obtain⟨_,z,_,e⟩:=h.ti hi;rw[e];exact z.sh
theorem Tv.Good.ev(h:t.Good){i:Nat}(hi:i<t.tabs.length):1<=t.r.ev i/\t.r.ev i<=1000000:=by
 obtain⟨_,z,e,_⟩:=h.ti hi;rw[e];exact z.ev
theorem Tv.Good.want(h:t.Good):t.Want:=
 ⟨h.n,fun i hi=>h.sh hi,fun i hi=>by have:=h.few i hi;omega,fun i hi r hr=>(h.fine i hi r hr).1.ok⟩
theorem Jvb:∀ {cs:List (Int×Int)},(∀p∈cs,1<=p.2) ->0<=Jc6 cs/\Jc6 cs<=sumC cs
 | [],_=>by simp[Jc6,sumC]
 | p::r,h=>by
   have z:=h p (by simp);have y:=Jvb (fun q hq=>h q (qc9 _ hq)) (cs:=r);simp only[Jc6,sumC];omega
theorem J48(n:Int)(l:List Rc):0<=Jix n l/\Jix n l<=l.length:=by
 have h:=Jvb (Jer (Jbk n l));rw[Jeq] at h;unfold Jix
 simpa[Jbk] using h
theorem Tv.Good.rare(h:t.Good):t.Few:=⟨fun i hi=>by have:=h.few i hi;omega,fun i hi=>by
 have z:=J48 (t.r.sh i) (t.tab i);have y:=h.few i hi;omega⟩
theorem Jlp{i n:Nat}{l:List Rc}{q:Nat}{x:Wv}(h:x∈Jd5 i n l q):∃s,s<q/\x=(i,s,Ja4 n l s)/\Ja4 n l s≠[]:=by
 unfold Jd5 at h;obtain⟨s,z,e⟩:=List.mem_filterMap.1 h;split at e
 · cases e
 · next hn=>cases e;exact⟨s,qce.1 z,rfl,hn⟩
theorem Jgu{k:Nat}{x:Wv}(h:x∈Jak t k):∃i s,i<k/\s<(t.r.sh i).toNat/\x=(i,s,Ja4 (t.r.sh i).toNat (t.tab i) s)/\Ja4 (t.r.sh i).toNat (t.tab i) s≠[]:=by
 unfold Jak at h;obtain⟨i,z,y⟩:=qcs.1 h;obtain⟨s,w,e,v⟩:=Jlp y;exact⟨i,s,qce.1 z,w,e,v⟩
def wvLt (a b:Wv):Prop:=a.1<b.1\/a.1=b.1/\a.2.1<b.2.1
theorem Jvc(i n:Nat)(l:List Rc):∀q,(Jd5 i n l q).Pairwise wvLt
 | 0=>by unfold Jd5;exact List.Pairwise.nil
 | q + 1=>by
   rw[Jew,List.pairwise_append];refine⟨Jvc i n l q,?_,fun a ha b hb=> ?_⟩
   · split
     · exact List.Pairwise.nil
     · exact List.pairwise_singleton _ _
   · split at hb
     · cases hb
     · rw[qa1.1 hb]
       obtain⟨s,z,rfl,_⟩:=Jlp ha;exact .inr ⟨rfl,z⟩
theorem Jq9(t:Tv):∀k,(Jak t k).Pairwise wvLt
 | 0=>by unfold Jak;exact List.Pairwise.nil
 | k+1=>by
   rw[Jd6,List.pairwise_append];refine⟨Jq9 t k,Jvc _ _ _ _,fun a ha b hb=> ?_⟩;obtain⟨i,s,z,_,rfl,_⟩:=Jgu ha;obtain⟨s',_,rfl,_⟩:=Jlp hb;exact .inl z
theorem Tv.Good.wv(h:t.Good):WvOk (Jak t t.tabs.length):=by
 have q:=h.n
 have fit:∀x∈Jak t t.tabs.length,x.1<5/\x.2.1<8/\1<=x.2.2.length/\x.2.2.length<=10000/\(∀r∈x.2.2,r.Fine)/\x.2.2.Pairwise Rc.lt:=by
  intro x w;obtain⟨i,s,z,p,rfl,y⟩:=Jgu w;have v:=h.sh z;have o:=h.few i z;have m:=Jll (t.r.sh i).toNat (t.tab i) s;refine⟨by show i<5;omega,by show s<8;omega,qdd.2 y,by show(Ja4 _ _ _).length<=_;omega,fun r hr=>(h.fine i z r (Jim hr).1).1,(h.ord i z).sublist (Ju8 _ _ _)⟩
 refine⟨?_,fit,?_⟩
 · have:=Jm4 t t.tabs.length (fun j hj=>by have:=h.sh hj;omega)
   omega
 · show List.Pairwise _ _
   rw[List.pairwise_map];refine List.Pairwise.imp_of_mem (fun {a b} ha hb hab=> ?_) (Jq9 t t.tabs.length);have l:=fit a ha;have k:=fit b hb;refine Jsv (by omega) (by omega) (by omega) (by omega) (fun e=> ?_);rcases hab with u | ⟨_,u⟩<;>omega
theorem Tv.Good.needW(h:t.Good):(needW (Jak t t.tabs.length):Int)=t.need:=Jjj (fun _ hi=>(h.sh hi).1) _ (qab _)
end
noncomputable def ldX (t:Tv) (x:Wv):Tv:=t.setTab x.1 (addL (t.r.ev x.1) (t.tab x.1) x.2.2)
def Pm.w (p:Pm):Wv:=(p.e.tier,p.e.shard,p.l)
theorem J1l(t:Tv)(x:Wv):(ldX t x).tabs.length=t.tabs.length:=Tv.setTab_len _ _ _
theorem Jvd(t:Tv)(x:Wv)(h:x.1<t.tabs.length):(ldX t x).tab x.1=addL (t.r.ev x.1) (t.tab x.1) x.2.2:=Tv.setTab_same h
theorem Jra(t:Tv)(x:Wv){i:Nat}(h:i≠x.1):(ldX t x).tab i=t.tab i:=Tv.setTab_other h
theorem Jve(i:Nat):∀ (xs:List Wv) (t:Tv),((xs.foldl ldX t).tab i).length<=(t.tab i).length+(xs.map fun x=>x.2.2.length).sum
 | [],_=>qab _
 | x :: xs,t=>by
   have h:=Jve i xs (ldX t x);show((xs.foldl ldX (ldX t x)).tab i).length<=_;rw[qbz,qda]
   have :((ldX t x).tab i).length<=(t.tab i).length+x.2.2.length:=by
    by_cases e:i=x.1
    · subst e
      by_cases z:x.1<t.tabs.length
      · rw[Jvd t x z];exact Jjr
      · have:(ldX t x).tab x.1=[]:=by
         unfold Tv.tab;rw[qdf,qbj (by rw[J1l];omega)];rfl
        rw[this];simp
    · rw[Jra t x e];omega
   omega
theorem ldK{k n:Nat}{l:List Rc}(T:Tv)(hk:k<T.tabs.length)(h0:T.tab k=[])(ho:l.Pairwise Rc.lt)(hr:∀r∈l,Jau (T.r.ev k) r=true):∀q,
  ((Jd5 k n l q).foldl ldX T).r=T.r/\((Jd5 k n l q).foldl ldX T).tabs.length=T.tabs.length/\((Jd5 k n l q).foldl ldX T).tab k=below n l q/\∀i,i≠k ->((Jd5 k n l q).foldl ldX T).tab i=T.tab i
 | 0=>by
   unfold Jd5;exact⟨rfl,rfl,by rw[Jw5];exact h0,fun _ _=>rfl⟩
 | q +1=>by
   obtain⟨z,y,x,w⟩:=ldK T hk h0 ho hr q (n:=n);rw[Jew,qb8];generalize (Jd5 k n l q).foldl ldX T=V at*;by_cases e:Ja4 n l q=[]
   · rw[qa0 e,Jot e]
     exact⟨z,y,x,w⟩
   · rw[qay e]
     show(ldX V (k,q,Ja4 n l q)).r=_/\(ldX V (k,q,Ja4 n l q)).tabs.length=_/\(ldX V (k,q,Ja4 n l q)).tab k=_/\∀i,i≠k ->(ldX V (k,q,Ja4 n l q)).tab i=_;refine⟨z,by rw[J1l];exact y,?_,fun i hi=>by rw[Jra V (k,q,Ja4 n l q) hi];exact w i hi⟩;have:=Jvd V (k,q,Ja4 n l q) (by rw[y];exact hk);rw[z,x] at this;rw[show(ldX V (k,q,Ja4 n l q)).tab k=_ from this];exact J1i q ho hr
theorem ldTo{t:Tv}(hg:t.Good)(T:Tv)(hl:T.tabs.length=t.tabs.length)(h0:∀i,T.tab i=[])(hev:∀i,T.r.ev i=t.r.ev i):∀k,k<=t.tabs.length ->
  ((Jak t k).foldl ldX T).r=T.r/\((Jak t k).foldl ldX T).tabs.length=T.tabs.length/\∀i,((Jak t k).foldl ldX T).tab i=if i<k then t.tab i else []
 | 0,_=>by
   unfold Jak;exact⟨rfl,rfl,fun i=>h0 i⟩
 | k +1,hk=>by
   obtain⟨z,x,y⟩:=ldTo hg T hl h0 hev k (by omega);rw[Jd6,qb8];generalize (Jak t k).foldl ldX T=V at*;have w:=hg.sh (show k<t.tabs.length by omega);obtain⟨g1,g2,g3,g4⟩:=ldK (k:=k) (n:=(t.r.sh k).toNat) (l:=t.tab k) V (by omega) (by rw[y,qay (by omega)]) (hg.ord k (by omega)) (fun r hr=>by rw[z,hev];exact(hg.fine k (by omega) r hr).2.1) (t.r.sh k).toNat;unfold Jww;refine⟨g1.trans z,g2.trans x,fun i=> ?_⟩;by_cases e:i=k
   · subst e
     rw[g3,J1g (by omega),qa0 (by omega)]
   · rw[g4 i e,y]
     by_cases e2:i<k
     · rw[qa0 e2,qa0 (by omega)]
     · rw[qay e2,qay (by omega)]
theorem Jw8{t:Tv}(hg:t.Good)(fl:List Int):(Jak t t.tabs.length).foldl ldX ⟨⟨t.r.now,t.r.nm,t.r.ts,fl⟩,List.replicate t.r.ts.length []⟩=t.withFs fl:=by
 have z:(List.replicate t.r.ts.length ([]:List Rc)).length=t.tabs.length:=by rw[List.length_replicate,hg.len]
 have x:∀i,Tv.tab ⟨⟨t.r.now,t.r.nm,t.r.ts,fl⟩,List.replicate t.r.ts.length []⟩ i=[]:=fun i=>by
  unfold Tv.tab;simp only[qdf,List.getElem?_replicate];split<;>rfl
 obtain⟨w,y,v⟩:=ldTo hg ⟨⟨t.r.now,t.r.nm,t.r.ts,fl⟩,List.replicate t.r.ts.length []⟩ z x (fun _=>rfl) t.tabs.length (qab _);refine Tv.ext_tab w (y.trans z) (fun i hi=> ?_);rw[y,z] at hi;rw[v,qa0 hi];rfl
def savB (t:Tv) (gen:Nat) (v:SvV):List UInt8:=catB gen v.id t.r.now (Py.printL t.r.nm.toList t.r.ts) t.r.all v.es
def savF (B N:Nat) (t:Tv) (gen:Nat) (v:SvV):Int ->Option ByteArray:=
 setS (putN v.f (Jb5 B gen) (chC (savB t gen v)) (nbC (savB t gen v))) ((gen % 2:Nat):Int) (strOf (suB gen N (savB t gen v).length))
structure Jfi (w:World) (FB FD:Nat ->Prop) (gx N C B D R gd gen mp bk q gl:Nat) (v:SvV) (ps:List Pm) (t:Tv):Prop where
 st:SvS w FB FD gx N C B D R gd gen v.id mp bk q ps.length (some ⟨gl,0,none⟩) 0 (mapOf ps) (usOf ps) none (Jcf ps) none (savF B N t gen v)
 log:Jso w gl ⟨gd,0,none⟩ 2 16 gen
 es:ps.map Pm.e=v.es
theorem J1m{FB FD FT:Nat ->Prop}{gx N C B D R gd gen id mp bk q nP gs:Nat}{lg:Option Addr}{us:List Int}{a b m:Option (List Int)}{f:Int ->Option ByteArray}{t:Tv}(w:World)(h:SvS w FB FD gx N C B D R gd gen id mp bk q nP lg 0 (fun _ _=>none) us a b m f)(hL:Jd3 N C B D R)(hS:StAt w FT gs R t)(hFT:∀x,FT x ->Apart FB FD gx w x)(hW:t.Want)(hV:WvOk (Jak t t.tabs.length))(hG:Glo w)(hfit:∀v,SvG D N ⟨id,us,f,[]⟩ (Jak t t.tabs.length) v ->Jik (gen+1) v.id t.r.now t.r.nm t.r.ts t.r.all v.es/\(catB (gen+1) v.id t.r.now (Py.printL t.r.nm.toList t.r.ts) t.r.all v.es).length<=C*256)(hlow:gB<=gx/\∀x,FB x\/FD x ->gB<=x)(hid:id<1000000)(hgen:gen<1000000)(hroom:us.length+needW (Jak t t.tabs.length)<=N - D)(hq:q<=500000):
  Cs 93 #[gx,gs] w fun e w'=>∃FB' FD' mp' bk' gl ps v q',e= .returned (0:Int)/\SvG D N ⟨id,us,f,[]⟩ (Jak t t.tabs.length) v/\q'<=q+10000/\
   Jfi w' FB' FD' gx N C B D R gd (gen+1) mp' bk' q' gl v ps t/\SvT w w' FB FD FB' FD' gx/\w.heap.size<=mp'/\(w.heap.size<=gl/\ ¬ FB' gl/\ ¬ FD' gl):=by
 have z:=(qaa w.heap.size w).drew;have y:gB<=gx/\∀x,FB x\/FD x ->gB<=x:=hlow;have U:=zI (J8q w.drew (h.below z) hL (hS.below z) (fun x hx=>by have k:=hFT x hx;exact⟨k.1,k.2.1,k.2.2.1,k.2.2.2⟩) hW hV (hG.below z) hfit y hid hgen hroom hq);have j:=zI h.box.lt;have T:=zI (fun W (hW:Below w.heap.size w W)=>Jjw (h.box.below hW));have S:=zI (fun W (hW:Below w.heap.size w W)=>Jqp W (hS.below hW));have x6:=h.box.at_ 6 (v:= (R:Int)) rfl;have y6:=(h.box.below z).at_ 6 (v:= (R:Int)) rfl;have x13:=(h.box.below z).at_ 13 (v:= (0:Int)) rfl;clear h hL hS hFT hW hV hG hfit hlow y hid hgen hroom z;go_enter Tryz.func93,Tryz.ntmps93;go_upto_region 1 with fail
 go_region_held3 (fun w'=>w'.cell? ⟨gx,6,none⟩=some (.int .i64 (R:Int))/\Below w.heap.size w w')
  (exact⟨y6,(qaa _ _).drew⟩)
  (first
    | (go_at_call 76
       refine(T.out _ ?hv).mono ?_
       case hv=>(go_split_ands;assumption)
       rintro e w3 ⟨rfl,rfl⟩)
    | (go_at_call 90
       refine(S.out _ ?hv).mono ?_
       case hv=>(go_split_ands;assumption)
       rintro e w3 ⟨rfl,rfl⟩))
 go_wp2_with fail
 refine U.out.mono ?_;rintro e w1 ⟨FB',FD',mp',bk',gl,ps,v,q',rfl,i,g,d,o,c,Z,Y,u⟩;have l:=zI (show w.heap.size<=mp'/\w.heap.size<=gl/\ ¬ FB' gl/\ ¬ FD' gl from⟨by simpa using Y,by simpa using u.1,u.2⟩);have y13:=o.box.at_ 13 (v:= (0:Int)) rfl;have f13:=o.box.free 13;have s:=o.boxed 13 (0:Int) (gen':=gen+1) (id':=v.id) (mp':=mp') (bk':=bk') (lg':=some ⟨gl,0,none⟩) (bad':=0) rfl rfl rfl;obtain⟨w2,n⟩:=exE (w1.setCell ⟨gx,13,none⟩ (0:Int));have V:gl≠gx:=by have k:=j.out;have I:=l.out.2.1;omega
 have P:Hid (Jso w2 gl ⟨gd,0,none⟩ 2 16 (gen+1)):=zI (by rw[n];exact Bx.other c (p:=⟨gx,13,none⟩) V _);rw[<- n] at s;have O:=zI n;have M:=zI (((SvT.of_below FB FD gx (qaa w.heap.size w).drew).trans Z).trans s.2);have L:=zI (show Jfi w2 FB' FD' gx N C B D R gd (gen+1) mp' bk' q' gl v ps t from⟨s.1,P.out,g⟩);have z13:=s.1.box.at_ 13 (v:= (0:Int)) rfl;have K:=zI i;have J:=zI d;clear i g d o c Z Y u s n V x6 y6 x13;go_upto_region 6 with fail
 rw[<- O.out];clear y13 f13;go_wp2_with fail
 go_ret;exact⟨FB',FD',mp',bk',gl,ps,v,q',rfl,K.out,J.out,L.out,M.out,l.out.1,l.out.2⟩
theorem J1n{F FT:Nat ->Prop}{gd N C B D R q gs:Nat}{f:Int ->Option ByteArray}{t:Tv}(w:World)(hD:DsAt w F gd N q f)(hL:Jd3 N C B D R)(hS:StAt w FT gs R t)(hFT:∀x,FT x -> ¬ F x)(hW:t.Want)(hV:WvOk (Jak t t.tabs.length))(hG:Glo w)(hlow:∀x,F x ->gB<=x)(hfit:∀v,SvG D N ⟨0,[],Jlk f 18,[]⟩ (Jak t t.tabs.length) v ->Jik (0+1) v.id t.r.now t.r.nm t.r.ts t.r.all v.es/\(catB (0+1) v.id t.r.now (Py.printL t.r.nm.toList t.r.ts) t.r.all v.es).length<=C*256)(hroom:needW (Jak t t.tabs.length)<=N - D)(hq:q<=400000):
  Cs 37 #[gd,gs] w fun e w'=>∃gx FB' FD' mp bk gl ps v q',e= .returned (.tuple #[(gx:Nat),(0:Int)])/\SvG D N ⟨0,[],Jlk f 18,[]⟩ (Jak t t.tabs.length) v/\q'<=q+10100/\
   Jfi w' FB' FD' gx N C B D R gd 1 mp bk q' gl v ps t/\w.heap.size<=gx/\(∀x,FB' x ->w.heap.size<=x)/\(∀x,FD' x ->grow F w w' x)/\Chg F w w'/\w.heap.size<=mp/\(w.heap.size<=gl/\ ¬ FB' gl/\ ¬ FD' gl):=by
 have Hk:=zI hD.blocks;have V:=Joq N w hL.n.1 hL.n.2;rw[<- hL.d,<- hL.b,<- hL.c,<- hL.r] at V;have Hl:=zI V;clear V;have HD:=zI hD;have U:=zI hL;have E:=zI hS;have A:=zI hFT;have Hm:=zI hW;have Hn:=zI hV;have Ho:=zI hG;have hJ:=zI hlow;have T:=zI hG.low;have Hp:=zI hfit;have Hq:=zI hroom;have Hr:=zI (fun W (hW:Below w.heap.size w W)=>Jqp W (hS.below hW));clear hD hL hS hFT hW hV hG hlow hfit hroom;go_enter Tryz.func37,Tryz.ntmps37;go_wp2_with fail
 refine Hk.out.mono ?_;rintro e w1 ⟨rfl,hw⟩;subst hw;go_wp2_with fail
 refine Hl.out.mono ?_;rintro e w1 ⟨rfl,S⟩;obtain⟨g6,s⟩:=exE w1.heap.size;obtain⟨w2,g⟩:=exE (w1.alloc (.cells #[(N:Int),(2:Int),(18:Int),(B:Int),(C:Int),(D:Int),(R:Int)] 64));have P:=Bx.new w1 64 #[(N:Int),(2:Int),(18:Int),(B:Int),(C:Int),(D:Int),(R:Int)];rw[<- g,<- s] at P;have Ha:Below w.heap.size w w2:=by rw[g];exact S.alloc S.size _
 have Hs:=zI g;have O:=zI s;have Hb:Below w.heap.size w w2.drew:=Ha.drew;have o:=zI Hb;have M:=P.drew;have y:=zI M;have y6:=M.at_ 6 (v:= (R:Int)) rfl;clear S s g P Ha Hb M;go_upto_region 6 with fail
 rw[<- Hs.out,<- O.out]
 go_region_held3 (fun w'=>w'.cell? ⟨g6,6,none⟩=some (.int .i64 (R:Int))/\Below w.heap.size w w')
  (exact⟨y6,o.out⟩)
  (first
    | (go_at_call 90
       refine(Hr.out _ ?hv).mono ?_
       case hv=>(go_split_ands;assumption)
       rintro e w3 ⟨rfl,rfl⟩))
 clear y6;obtain⟨w3,Hc⟩:=exE w2.drew;rw[<- Hc] at o y ⊢;clear Hc;go_split_ands;have x0:=y.out.at_ 0 (v:= (N:Int)) rfl;have x1:=y.out.at_ 1 (v:= (2:Int)) rfl;have x2:=y.out.at_ 2 (v:= (18:Int)) rfl;have x3:=y.out.at_ 3 (v:= (B:Int)) rfl;have x4:=y.out.at_ 4 (v:= (C:Int)) rfl;have x5:=y.out.at_ 5 (v:= (D:Int)) rfl;have x6:=y.out.at_ 6 (v:= (R:Int)) rfl;have Ht:=zI (Ju3 N C B D R gd w3 U.out);go_wp2_with fail
 refine Ht.out.mono ?_;rintro e w4 ⟨gx,mp,bk,FB,rfl,Z⟩;have Hu:=o.out.size;have L:=o.out.trans (Z.bel.mono o.out.size);have K:=Z.low;have m:∀x,F x ->x<w.heap.size:=HD.out.ins;have Kg:=zI m
 have l:SvS w4 FB F gx N C B D R gd 0 0 mp bk q 0 none 0 (fun _ _=>none) [] none none none f:=
  ⟨Z.box,Z.map,Z.book,HD.out.below L,fun x z hd=>by have h1:=K.2.2 x z;have h2:=m x hd;omega,⟨Z.ne.1,fun h=>by have h2:=m _ h;omega⟩,⟨Z.ne.2,fun h=>by have h2:=m _ h;omega⟩⟩
 have Hv:=zI l;have a:=zI L;have k:=zI (show w.heap.size<=gx/\∀x,FB x ->w.heap.size<=x from⟨by omega,fun x z=>by have h1:=K.2.2 x z;omega⟩);have Hw:=zI (J8c w4 l.box l.ngx.2 (by have:=U.out.n;omega) l.disk (by omega));clear Z Hu L K m l x0 x1 x2 x3 x4 x5 x6;go_wp2_with fail
 refine Hw.out.mono ?_;rintro e w5 ⟨rfl,j⟩;have p:=Hv.out.disked j;obtain⟨FD5,u⟩:=exE (grow F w4 w5);rw[<- u] at p;have Hx:=a.out.size;have J:=p.2.chg.size;have I:=k.out;have Hy:=p.1.box.lt;have H:=zI (show ∀x,FD5 x ->F x\/w.heap.size<=x from fun x z=>by rw[u] at z;exact z.imp (fun h=>h) (fun h=>by have:=h.1;omega))
 have Hz:=zI (show ∀x,FT x ->Apart FB FD5 gx w5 x from fun x z=>by
  have h1:=E.out.ins x z;refine⟨fun h=> ?_,fun h=> ?_,by omega,by omega⟩
  · have:=I.2 x h;omega
  · rcases H.out x h with h | h
    · exact A.out x z h
    · omega)
 have Y:=(E.out.below a.out).chg j.chg (fun x z hf=>A.out x z hf);have Hd:=(Ho.out.below a.out).chg j.chg (fun x z=>hJ.out x z)
 have H0:=zI (J1m w5 p.1 U.out Y Hz.out Hm.out Hn.out Hd Hp.out ⟨by have:=T.out;omega,fun x z=>by
  rcases z with z | z
  · have h1:=I.2 x z;have:=T.out;omega
  · rcases H.out x z with h | h
    · exact hJ.out x h
    · have:=T.out;omega⟩ (by omega) (by omega) (by have:=Hq.out;simp;omega) (by omega))
 have Kh:=zI p.1;have He:=zI (show Chg F w w5 from(Chg.of_below a.out).trans j.chg (fun x h=> .inl h));have H9:=zI (show ∀x,FD5 x ->grow F w w5 x from fun x z=>by rw[u] at z;exact z.imp (fun h=>h) (fun h=>⟨by have:=h.1;omega,h.2⟩));clear j p u Hx J I Hy Y Hd;go_wp2_with fail
 refine H0.out.mono ?_;rintro e w6 ⟨FB',FD',mp',bk',gl,ps,v,q',rfl,s,Hf,Hg,i,Ka,G⟩;have J:=He.out.size;have Hh:=i.chg.size;have O:=zI s;have Hi:=G.1;have Hj:=zI (show w.heap.size<=mp'/\w.heap.size<=gl/\ ¬ FB' gl/\ ¬ FD' gl from⟨by omega,by omega,G.2⟩);have Kb:=zI Hg;have Kc:=zI Hf
 have Kd:=zI (show ∀x,FB' x ->w.heap.size<=x from fun x z=>by
  rcases i.fb x z with h | h
  · exact k.out.2 x h
  · have:=h.1;omega)
 have Ke:=zI (show ∀x,FD' x ->grow F w w6 x from fun x z=>by
  rcases i.fd x z with h | h
  · exact Jcj (H9.out x h) Hh
  · exact .inr ⟨by have:=h.1;omega,h.2⟩)
 have Kf:=zI (show Chg F w w6 from He.out.trans i.chg (fun x z=>by
  rcases z with rfl | z | z
  · exact .inr k.out.1
  · exact .inr (k.out.2 x z)
  · exact H.out x z))
 clear s Hf Hg i J Hh Ka G Hi;go_wp2_with fail
 go_ret2;exact⟨gx,FB',FD',mp',bk',gl,ps,v,q',rfl,O.out,by have:=Kc.out;omega,Kb.out,k.out.1,Kd.out,Ke.out,Kf.out,Hj.out.1,Hj.out.2⟩
def webT:Tv:=Tv.new ⟨Py.webNm.toArray⟩ Py.webTs 0
theorem J1o(i:Nat):webT.r.from_ i=0:=by
 match i with
 | 0=>decide
 | 1=>decide
 | k+2=>rfl
theorem Jj2(i:Nat):webT.tab i=[]:=by
 match i with
 | 0=>rfl
 | 1=>rfl
 | k+2=>rfl
theorem Jw9:webT.r.nm.size<=maxLen:=by show(3:Nat)<=maxLen;unfold maxLen;omega
theorem Jb2:webT.Good:=by
 refine⟨by show Py.checkR (⟨Py.webNm.toArray⟩:ByteArray).toList Py.webTs=(0,0);rw[Py.toList_mk];exact Py.web_check,Jw9,rfl,⟨by decide,by decide⟩,fun i z=> ?_,fun i _=> ?_,fun i _ r hr=> ?_,fun i _=> ?_⟩
 · rw[J1o]
   refine⟨by omega,by omega,?_⟩;have z:i<2:=z
   match i with
   | 0=>decide
   | 1=>decide
 · rw[Jj2];exact List.Pairwise.nil
 · rw[Jj2] at hr;cases hr
 · rw[Jj2];exact qaq _
theorem J8r(v:Int):ofL [v]=oneG v:=by
 show Jd9 Ag.zero (oneG v)=_;unfold Jd9;rw[qa0 (show Ag.zero.c=0 from rfl)]
theorem Jm8(v:Int):Jbx (oneG v)=true:=by
 unfold Jbx oneG;exact qaj ⟨by show(1:Int)<=1;omega,by show(1:Int)<=4611686018427387904;omega,Int.le_refl _⟩
theorem Jga:webT.need=0:=rfl
theorem Js9{a b:Ag}(hb:Jbx b=true):Jbx (Jbf [a,b])=true:=by
 have w:=Jgd hb
 have e:Jbf [a,b]=Jd9 (Jaq Ag.zero a) b:=by
  show Jaq (Jaq Ag.zero a) b=_;generalize Jaq Ag.zero a=s;unfold Jaq;rw[qa0 hb]
 rw[e]
 have z:(Jaq Ag.zero a).c=0\/1<=(Jaq Ag.zero a).c/\(Jaq Ag.zero a).mn<=(Jaq Ag.zero a).mx:=by
  unfold Jaq;split
  · next h=>
    have y:=Jgd h;have:Jd9 Ag.zero a=a:=qa0 rfl;rw[this];exact .inr ⟨y.1,y.2.2⟩
  · exact .inl rfl
 generalize Jaq Ag.zero a=s at*;unfold Jd9;by_cases x:s.c=0
 · rw[qa0 x];exact hb
 · rw[qay x]
   unfold Jbx;rcases z with z | ⟨y,v⟩
   · exact absurd z x
   · refine qaj ⟨?_,?_,?_⟩
     · dsimp only;split<;>omega
     · dsimp only;split<;>omega
     · dsimp only;omega
theorem J49{l:List Rc}(h:∀r∈l,r.Fine)(s:ByteArray)(n:Int):(agAt l s n).Fit:=by
 unfold agAt;cases hf:Jiq l s n with
 | none=>exact Ag.Fit.zero
 | some r=>exact(h r (Jek hf).1).ok.ag
theorem J5a{ev:Int}{l:List Rc}{r z:Rc}(hz:z∈addR ev l r):z∈l\/Jau ev r=true/\z=⟨r.nm,r.st,Jbf [agAt l r.nm r.st,r.ag]⟩:=by
 unfold addR at hz;split at hz
 · next h=>exact(Jjo hz).elim (fun e=> .inr ⟨h,e⟩) .inl
 · exact .inl hz
theorem J1p{ev fr:Int}{l:List Rc}{r:Rc}(hl:∀z∈l,z.Fine/\Jau ev z=true/\fr<=z.st)(hr:r.Fine)(hf:fr<=r.st):∀z∈addR ev l r,z.Fine/\Jau ev z=true/\fr<=z.st:=by
 intro z x;rcases J5a x with h | ⟨y,rfl⟩
 · exact hl z h
 · have w:=Js9 (a:=agAt l r.nm r.st) hr.ag
   refine⟨⟨⟨hr.ok.nm,hr.ok.st,Ag.Fit.merge fun a ha=> ?_⟩,hr.nm,hr.st,w⟩,?_,hf⟩
   · simp only[qbb,List.not_mem_nil,or_false] at ha
     rcases ha with rfl | rfl
     · exact(J49 (fun z x=>(hl z x).1) _ _).ok
     · exact hr.ok.ag.ok
   · unfold Jau at y ⊢
     simp only[qb1] at y ⊢;exact⟨y.1,w⟩
theorem J93{t e:Int}(h:0<=t)(he:1<=e):onB (flr t e) e=true:=by
 have z:=Jkl h he;refine qaj ⟨he,?_⟩;rw[Jjp z.1];unfold flr;have:=Int.emod_add_mul_ediv t e;rw[show t - t % e=e*(t / e) from by omega];exact Int.mul_emod_right _ _
section
variable {t:Tv}
theorem Jvf(hg:t.Good){s:Smp}(hs:t.r.Gets s){i:Nat}(hi:i<t.tabs.length)(hh:t.r.has (i:Int) s.tm=true):(t.r.rec_ i s).Fine/\Jau (t.r.ev i) (t.r.rec_ i s)=true/\t.r.from_ i<=(t.r.rec_ i s).st:=by
 obtain⟨K,_⟩:=hg.ti hi;have w:=hg.ev hi;have q:isB t.r.ts.length (i:Int)=true:=Jr5 K;have y:=hs.tm;have p:=hg.now
 have e1:t.r.start (i:Int) s.tm=flr s.tm (t.r.ev i):=by
  unfold Rch.start;rw[qa0 ⟨q,y.1⟩];show flrE s.tm (((t.r.ts[(i:Int).toNat]?).map Ti.ev).getD 0)=_;rw[qc3];show flrE s.tm (t.r.ev i)=_;unfold flrE;rw[qay (by omega)]
 have v:=Jkl y.1 w.1
 have u:t.r.from_ i<=flr s.tm (t.r.ev i):=by
  unfold Rch.has at hh;simp only[qb1,qbc] at hh;have:=hh.2;unfold Rch.fromI at this;rw[qa0 q,qc3,e1] at this;exact this
 have z:(t.r.rec_ i s).st=flr s.tm (t.r.ev i):=e1;have x:(t.r.rec_ i s).ag=oneG s.vl:=J8r s.vl
 have o:s.nm.size<=15:=by
  have h:=hs.nm;unfold Jae at h;simp only[qb1,qbc,Jac] at h;exact h.1.2
 refine⟨⟨⟨by show s.nm.size<=maxLen;unfold maxLen;omega,by rw[z];exact Jcd (by omega),by rw[x];exact Ag.Fit.one hs.ok.vl⟩,hs.nm,by rw[z];omega,by rw[x];exact Jm8 _⟩,?_,by rw[z];exact u⟩;unfold Jau;rw[show(t.r.rec_ i s).nm=s.nm from rfl,z,x,hs.nm,Jm8,J93 y.1 w.1];simp[v.1]
theorem Jm9(hg:t.Good){s:Smp}(hs:t.r.Gets s):∀k,k<=t.tabs.length ->∀i,i<t.tabs.length ->((t.putTo s k).tab i).Pairwise Rc.lt/\∀z∈(t.putTo s k).tab i,z.Fine/\Jau (t.r.ev i) z=true/\t.r.from_ i<=z.st
 | 0,_,i,hi=>⟨hg.ord i hi,hg.fine i hi⟩
 | k + 1,hk,i,hi=>by
   have ih:=Jm9 hg hs k (by omega) i hi;simp only[Tv.putTo];split
   · next hh=>
     by_cases e:i=k
     · subst e
       rw[Tv.setTab_same (by rw[Tv.putTo_len];exact hi)];have y:=Jvf hg hs hi hh;exact⟨Jos ih.1,J1p ih.2 y.1 y.2.2⟩
     · rw[Tv.setTab_other e];exact ih
   · exact ih
theorem J1q(hg:t.Good){s:Smp}(hs:t.r.Gets s)(hfew:∀i,i<t.tabs.length ->(t.tab i).length<=9999):(t.put1 s).Good:=by
 have z:=t.putTo_r s t.tabs.length;have y:=t.putTo_len s t.tabs.length;have x:=fun i hi=>Jm9 hg hs t.tabs.length (qab _) i hi;have w:=fun i hi=>(Tv.putTo_few (s:=s) hfew t.tabs.length i hi).1;show(t.putTo s t.tabs.length).Good;refine⟨by rw[z];exact hg.ck,by rw[z];exact hg.nm,by rw[z,y];exact hg.len,by rw[z];exact hg.now,by rw[z];exact hg.flo,fun i hi=> ?_,fun i hi=> ?_,fun i hi=> ?_⟩
 · rw[y] at hi;exact(x i hi).1
 · rw[y] at hi;rw[z];exact(x i hi).2
 · rw[y] at hi;exact w i hi
theorem Jvg:∀ {l:List Smp} {t:Tv} {N:Nat},t.Good ->(∀s∈l,t.r.Gets s) ->(∀i,i<t.tabs.length ->(t.tab i).length<=N) ->N+l.length<=10000 ->(t.put l).Good
 | [],_,_,hg,_,_,_=>hg
 | s::l,t,N,hg,hs,hN,hn=>by
   rw[qa3] at hn;have z:=J1q hg (hs s (by simp)) (fun i hi=>by have:=hN i hi;omega);have y:(t.put1 s).r=t.r:=t.putTo_r s t.tabs.length;have w:(t.put1 s).tabs.length=t.tabs.length:=t.putTo_len s t.tabs.length;exact Jvg (l:=l) (N:=N+1) z (fun x hx=>by rw[y];exact hs x (by simp[hx])) (fun i hi=>by rw[w] at hi;exact(Tv.putTo_few (s:=s) hN t.tabs.length i hi).1) (by omega)
end
def webN (now:Int):Tv:=⟨⟨now,⟨Py.webNm.toArray⟩,Py.webTs,[]⟩,[[],[]]⟩
theorem Jj3(now:Int)(i:Nat):(webN now).tab i=[]:=by
 match i with
 | 0=>rfl
 | 1=>rfl
 | k+2=>rfl
theorem Jrb{now:Int}(h:0<=now/\now<=1099511627776):(webN now).Good:=by
 have z:=Jb2;refine⟨z.ck,z.nm,rfl,h,fun i y=> ?_,fun i _=> ?_,fun i _ r hr=> ?_,fun i _=> ?_⟩
 · have y:i<2:=y
   have key:∀kp e:Int,0<=kp ->kp<=100000 ->(e=1\/e=10) ->0<=Je4 now kp 10/\Je4 now kp 10<=4611686018427387904/\onB (Je4 now kp 10) e=true:=by
    intro kp e u s x;unfold Je4;by_cases w:now<0\/kp<0\/(10:Int)<1\/now<kp
    · rw[qa0 w]
      refine⟨by omega,by omega,?_⟩;rcases x with rfl | rfl<;>decide
    · rw[qay w]
      have v:=Jkl (t:=now - kp) (e:=10) (by omega) (by omega);refine⟨v.1,by omega,qaj ⟨by omega,?_⟩⟩;rw[Jjp v.1];unfold flr;rcases x with rfl | rfl<;>omega
   match i with
   | 0=>exact key 100 1 (by omega) (by omega) (.inl rfl)
   | 1=>exact key 1000 10 (by omega) (by omega) (.inr rfl)
 · rw[Jj3];exact List.Pairwise.nil
 · rw[Jj3] at hr;cases hr
 · rw[Jj3];exact qaq _
