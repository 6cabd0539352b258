/-
  Several texts in one: Bra, Brb, Savf, Form, Web, Pgood.
-/
import Derived.Test.YtglmhddbhhcjdaaGreatDoorU38
import Derived.Test.YtglmhddbhhcjdaaGreatDoorU39
set_option maxRecDepth 100000
set_option linter.unusedSimpArgs false
set_option maxHeartbeats 4000000
namespace Go.Proofs.YtglmhddbhhcjdaaGreatDoor
open Go.RowKit
theorem Jz7{g:Ag}(h:Jb2 g=true):Jbe [Ag.zero,g]=g:=by
 show Jap (Jap Ag.zero Ag.zero) g=g;have e0:Jap Ag.zero Ag.zero=Ag.zero:=by decide
 rw[e0];unfold Jap;rw[if_pos h];unfold Jdz;rw[if_pos (show Ag.zero.c=0 from rfl)]
theorem Jz8{ev:Int}{r:Rc}(h:Jau ev r=true):Jb2 r.ag=true:=by
 unfold Jau at h;simp only[qcx] at h;exact h.2
theorem J3y{ev:Int}{l:List Rc}{r:Rc}(h:Jau ev r=true)(hn:∀a∈l,a.same r=false):addR ev l r=putR r l:=by
 rw[Js8 h]
 have e:agAt l r.nm r.st=Ag.zero:=by
  unfold agAt;cases hf:Jig l r.nm r.st with
  | none=>rfl
  | some x=>
    obtain⟨z,y,w⟩:=Jeb hf;have:=hn x z;rw[show x.same r=true from Rc.same_iff.2 ⟨y,w⟩] at this;cases this
 rw[e,Jz7 (Jz8 h)]
theorem Jz9{ev:Int}{l:List Rc}{r:Rc}(h:Jau ev r=true)(hl:l.Pairwise Rc.lt)(hn:∀a∈l,a.same r=false):(addR ev l r).Perm (r::l):=by
 rw[J3y h hn];refine(Jjr hl).trans ?_;rw[qbj.2 (fun y hy=>by rw[Rc.same_symm,hn y hy];rfl)]
theorem Jua{ev:Int}{l:List Rc}{r:Rc}(hl:l.Pairwise Rc.lt):(addR ev l r).Pairwise Rc.lt:=by
 unfold addR;split
 · exact Jm2 hl
 · exact hl
theorem Joc{ev:Int}:∀ {rs l:List Rc},l.Pairwise Rc.lt ->(addL ev l rs).Pairwise Rc.lt
 | [],_,hl=>hl
 | r::rs,l,hl=>Joc (rs:=rs) (l:=addR ev l r) (Jua hl)
theorem Jmr{ev:Int}:∀ {rs l:List Rc},l.Pairwise Rc.lt ->rs.Pairwise Rc.lt ->(∀r∈rs,Jau ev r=true) ->(∀a∈l,∀r∈rs,a.same r=false) ->(addL ev l rs).Perm (rs++l)
 | [],_,_,_,_,_=>List.Perm.refl _
 | r ::rs,l,hl,hrs,hr,hn=>by
   rw[qbe] at hrs;have y:=Jz9 (hr r (by simp)) hl (fun a z=>hn a z r (by simp));refine(Jmr (rs:=rs) (l:=addR ev l r) (Jua hl) hrs.2 (fun x hx=>hr x (by simp[hx])) (fun a z x hx=> ?_)).trans ?_
   · rcases qbf.1 (y.mem_iff.1 z) with rfl | z
     · exact Rc.lt_not_same (hrs.1 x hx)
     · exact hn a z x (by simp[hx])
   · refine(y.append_left rs).trans ?_
     exact List.perm_middle
def below (n:Nat) (l:List Rc) (k:Nat):List Rc:=l.filter fun r=>decide (shO n r<k)
theorem Jv5(n:Nat)(l:List Rc):below n l 0=[]:=by
 unfold below;rw[qbn];intro a _
 simp
theorem J0a{n:Nat}(hn:1<=n)(l:List Rc):below n l n=l:=by
 unfold below;rw[qbj];intro a _;exact qa0 (Jmm hn a).2
theorem Jv6(n:Nat)(l:List Rc)(k:Nat):(Ja2 n l k++below n l k).Perm (below n l (k+1)):=by
 unfold Ja2 below
 induction l with
 | nil=>exact List.Perm.refl _
 | cons a r ih=>
   rw[qbh,qbh,qbh];by_cases z:shO n a=k
   · rw[if_pos (qa0 z),if_neg (by simp;omega),if_pos (by simp;omega)]
     exact ih.cons a
   · rw[if_neg (by simpa using z)]
     by_cases y:shO n a<k
     · rw[if_pos (by simpa using y),if_pos (by simp;omega)]
       exact List.perm_middle.trans (ih.cons a)
     · rw[if_neg (by simpa using y),if_neg (by simp;omega)]
       exact ih
theorem Jod{n:Nat}{l:List Rc}{k:Nat}(h:Ja2 n l k=[]):below n l (k+1)=below n l k:=by
 unfold Ja2 at h;unfold below;rw[qbn] at h;apply qbg;intro a z;have:=h a z;simp at this
 simp
 omega
theorem Jub(n:Nat)(l:List Rc)(k:Nat):(Ja2 n l k).Sublist l:=List.filter_sublist
theorem Jqm(n:Nat)(l:List Rc)(k:Nat):(below n l k).Sublist l:=List.filter_sublist
theorem Jib{n:Nat}{l:List Rc}{k:Nat}{r:Rc}(h:r∈Ja2 n l k):r∈l/\shO n r=k:=by
 unfold Ja2 at h;rw[qbm] at h;exact⟨h.1,by simpa using h.2⟩
theorem J0b{n:Nat}{l:List Rc}{k:Nat}{r:Rc}(h:r∈below n l k):r∈l/\shO n r<k:=by
 unfold below at h;rw[qbm] at h;exact⟨h.1,by simpa using h.2⟩
theorem J0c{ev:Int}{n:Nat}{l:List Rc}(k:Nat)(ho:l.Pairwise Rc.lt)(hr:∀r∈l,Jau ev r=true):addL ev (below n l k) (Ja2 n l k)=below n l (k+1):=by
 have z:=ho.sublist (Jqm n l k);have y:=ho.sublist (Jub n l k);refine Jre (Joc z) (ho.sublist (Jqm n l (k+1))) ?_;refine(Jmr z y (fun r hx=>hr r (Jib hx).1) (fun a ha r hx=> ?_)).trans (Jv6 n l k);cases e:a.same r with
 | false=>rfl
 | true=>
   have e1:=Rc.same_iff.1 e;have e2:=(J0b ha).2;have e3:=(Jib hx).2;unfold shO at e2 e3;rw[e1.1] at e2;omega
def sumN (g:Nat ->Int):Nat ->Int
 | 0=>0
 | k+1=>sumN g k+g k
theorem Jeq{f g:Nat ->Int}:∀ {n:Nat},(∀k,k<n ->f k=g k) ->sumN f n=sumN g n
 | 0,_=>rfl
 | n+1,h=>by
   unfold sumN;rw[Jeq (fun k hk=>h k (by omega)),h n (by omega)]
theorem Jqn:∀n:Nat,sumN (fun _=>0) n=0
 | 0=>rfl
 | n+1=>by unfold sumN;rw[Jqn n];rfl
theorem Juc{f:Nat ->Int}{a:Nat}(v:Int):∀ {n:Nat},a<n ->f a=0 ->sumN (fun k=>if k=a then v else f k) n=v+sumN f n
 | 0,h,_=>by omega
 | n +1,h,h0=>by
   unfold sumN;by_cases e:n=a
   · subst e
     rw[if_pos rfl,h0,Jeq (f:=fun k=>if k=n then v else f k) (g:=f) (fun k hk=>if_neg (by omega))];omega
   · rw[if_neg e,Juc v (by omega) h0]
     omega
theorem Jqo{n:Nat}:∀ {cs:List (Int×Int)},cs.Pairwise (fun p q=>p.1≠q.1) ->(∀p∈cs,0<=p.1/\p.1<(n:Int)) ->Jc0 cs=sumN (fun k=>(atc cs (k:Int)+2) / 3) n
 | [],_,_=>by
   show(0:Int)=_;rw[<- Jqn n];exact Jeq (fun k _=>rfl)
 | p::r,ha,hb=>by
   rw[qbe] at ha;have x:=hb p (by simp);have y:atc r p.1=0:=Jnn (fun q hq=>fun e=>ha.1 q hq e.symm);have ih:=Jqo ha.2 (fun q hq=>hb q (by simp[hq]));have e:p.1=((p.1.toNat:Nat):Int):=by omega
   show(p.2+2) / 3+Jc0 r=_;rw[ih,<- Juc (f:=fun k=>(atc r (k:Int)+2) / 3) (a:=p.1.toNat) ((p.2+2) / 3) (by omega) (by show(atc r ((p.1.toNat:Nat):Int)+2) / 3=0;rw[<- e,y];rfl)];refine Jeq (fun k hk=> ?_);have e1:atc (p::r) (k:Int)=if p.1=(k:Int) then p.2 else atc r (k:Int):=rfl;rw[e1];by_cases z:k=p.1.toNat
   · rw[if_pos z,if_pos (by omega)]
   · rw[if_neg z,if_neg (by omega)]
theorem Jud(k j:Int):∀cs:List (Int×Int),atc (bump k cs) j=atc cs j+if j=k then 1 else 0
 | []=>by
   unfold bump atc;by_cases e:k=j
   · subst e;simp
   · rw[if_neg e,if_neg (fun h=>e h.symm)];rfl
 | p ::r=>by
   unfold bump;by_cases e:p.1=k
   · rw[if_pos e]
     unfold atc;by_cases e2:p.1=j
     · rw[if_pos e2,if_pos e2,if_pos (by omega)]
     · rw[if_neg e2,if_neg e2,if_neg (by omega)];omega
   · rw[if_neg e]
     unfold atc;by_cases e2:p.1=j
     · rw[if_pos e2,if_pos e2,if_neg (by omega)];omega
     · rw[if_neg e2,if_neg e2,Jud k j r]
theorem Jv7(n:Nat)(hn:1<=n)(l:List Rc)(k:Nat):atc (Jeg (Jbh (n:Int) l)) (k:Int)=((Ja2 n l k).length:Int):=by
 obtain⟨m,rfl⟩:∃m:List Rc,l=m.reverse:=⟨l.reverse,by simp⟩
 induction m with
 | nil=>rfl
 | cons a r ih=>
   rw[qbp,Jg5,Jdi,Jud,Jmn,ih,show max (n:Int) 1=(n:Int) from by omega,(Jmm hn a).1];by_cases e:shO n a=k
   · rw[if_pos e,if_pos (by omega)];simp
   · rw[if_neg e,if_neg (by omega)];simp
theorem J0d(n:Nat)(hn:1<=n)(l:List Rc):∀p∈Jeg (Jbh (n:Int) l),0<=p.1/\p.1<(n:Int):=by
 obtain⟨m,rfl⟩:∃m:List Rc,l=m.reverse:=⟨l.reverse,by simp⟩
 induction m with
 | nil=>intro p z;cases z
 | cons a r ih=>
   intro p z;rw[qbp,Jg5,Jdi] at z;rcases Jnl z with h | h
   · rw[h,show max (n:Int) 1=(n:Int) from by omega,(Jmm hn a).1]
     have:=(Jmm hn a).2;omega
   · exact ih p h
theorem J0e(n:Nat)(hn:1<=n)(l:List Rc):Jim (n:Int) l=sumN (fun k=>(sgN (Ja2 n l k).length:Int)) n:=by
 unfold Jim;rw[Jqo (Jrp _) (J0d n hn l)];refine Jeq (fun k _=> ?_);show(atc (Jeg (Jbh (n:Int) l)) (k:Int)+2) / 3=_;rw[Jv7 n hn];unfold sgN;omega
theorem Jqp(a b:List Wv):needW (a++b)=needW a+needW b:=by simp[needW]
theorem Jk9(i n:Nat)(l:List Rc):∀k,(needW (Jdw i n l k):Int)=sumN (fun k=>(sgN (Ja2 n l k).length:Int)) k
 | 0=>rfl
 | k+1=>by
   rw[Jep,Jqp];unfold sumN;rw[<- Jk9 i n l k];by_cases e:Ja2 n l k=[]
   · rw[if_pos e,e];simp[needW,sgN]
   · rw[if_neg e];simp[needW]
theorem Ji3{t:Tv}(h:∀i,i<t.tabs.length ->1<=t.r.sh i):∀k,k<=t.tabs.length ->(needW (Jak t k):Int)=Jbl t k
 | 0,_=>rfl
 | k+1,hk=>by
   have y:=h k (by omega);obtain⟨n,z⟩:∃n:Nat,t.r.sh k=(n:Int):=⟨(t.r.sh k).toNat,by omega⟩;rw[Jdx,Jqp];unfold Jbl;rw[Int.natCast_add,Ji3 h k (by omega)];unfold Jvw;rw[z,qa2,Jk9,J0e n (by omega)]
structure Tv.Good (t:Tv):Prop where
 ck:Py.checkR t.r.nm.toList t.r.ts=(0,0)
 nm:t.r.nm.size<=maxLen
 len:t.tabs.length=t.r.ts.length
 now:0<=t.r.now/\t.r.now<=1099511627776
 flo:∀i,i<t.r.ts.length ->0<=t.r.from_ i/\t.r.from_ i<=4611686018427387904/\onB (t.r.from_ i) (t.r.ev i)=true
 ord:∀i,i<t.tabs.length ->(t.tab i).Pairwise Rc.lt
 fine:∀i,i<t.tabs.length ->∀r∈t.tab i,r.Fine/\Jau (t.r.ev i) r=true/\t.r.from_ i<=r.st
 few:∀i,i<t.tabs.length ->(t.tab i).length<=10000
theorem Tv.ext_tab{a b:Tv}(hr:a.r=b.r)(hl:a.tabs.length=b.tabs.length)(h:∀i,i<a.tabs.length ->a.tab i=b.tab i):a=b:=by
 obtain⟨ar,ta⟩:=a;obtain⟨br,tb⟩:=b;cases hr
 have e:ta=tb:=by
  apply qct hl;intro i z y;have:=h i z
  simpa[Tv.tab,z,y] using this
 rw[e]
section
variable {t:Tv}
theorem Tv.Good.ti(h:t.Good){i:Nat}(hi:i<t.tabs.length):∃K:i<t.r.ts.length,(t.r.ts[i]).Fine/\t.r.ev i=(t.r.ts[i]).ev/\t.r.sh i=(t.r.ts[i]).sh:=by
 have K:i<t.r.ts.length:=by rw[<- h.len];exact hi
 obtain⟨_,_,_,z,_⟩:=Py.check_fine h.ck;exact⟨K,z _ (qal K),Rch.ev_at K,Rch.sh_at K⟩
theorem Tv.Good.n(h:t.Good):1<=t.tabs.length/\t.tabs.length<=5:=by
 obtain⟨_,z,y,_,_⟩:=Py.check_fine h.ck;rw[h.len];exact⟨z,y⟩
theorem Tv.Good.sh(h:t.Good){i:Nat}(hi:i<t.tabs.length):1<=t.r.sh i/\t.r.sh i<=8:=by
 obtain⟨_,z,_,e⟩:=h.ti hi;rw[e];exact z.sh
theorem Tv.Good.ev(h:t.Good){i:Nat}(hi:i<t.tabs.length):1<=t.r.ev i/\t.r.ev i<=1000000:=by
 obtain⟨_,z,e,_⟩:=h.ti hi;rw[e];exact z.ev
theorem Tv.Good.want(h:t.Good):t.Want:=
 ⟨h.n,fun i hi=>h.sh hi,fun i hi=>by have:=h.few i hi;omega,fun i hi r hr=>(h.fine i hi r hr).1.ok⟩
theorem Jue:∀ {cs:List (Int×Int)},(∀p∈cs,1<=p.2) ->0<=Jc0 cs/\Jc0 cs<=sumC cs
 | [],_=>by simp[Jc0,sumC]
 | p::r,h=>by
   have z:=h p (by simp);have y:=Jue (fun q hq=>h q (qc6 _ hq)) (cs:=r);simp only[Jc0,sumC];omega
theorem J3z(n:Int)(l:List Rc):0<=Jim n l/\Jim n l<=l.length:=by
 have h:=Jue (Jei (Jbh n l));rw[Jeh] at h;unfold Jim
 simpa[Jbh] using h
theorem Tv.Good.rare(h:t.Good):t.Few:=⟨fun i hi=>by have:=h.few i hi;omega,fun i hi=>by
 have z:=J3z (t.r.sh i) (t.tab i);have y:=h.few i hi;omega⟩
theorem Jla{i n:Nat}{l:List Rc}{q:Nat}{x:Wv}(h:x∈Jdw i n l q):∃s,s<q/\x=(i,s,Ja2 n l s)/\Ja2 n l s≠[]:=by
 unfold Jdw at h;obtain⟨s,z,e⟩:=List.mem_filterMap.1 h;split at e
 · cases e
 · next hn=>cases e;exact⟨s,qco.1 z,rfl,hn⟩
theorem Jgn{k:Nat}{x:Wv}(h:x∈Jak t k):∃i s,i<k/\s<(t.r.sh i).toNat/\x=(i,s,Ja2 (t.r.sh i).toNat (t.tab i) s)/\Ja2 (t.r.sh i).toNat (t.tab i) s≠[]:=by
 unfold Jak at h;obtain⟨i,z,y⟩:=qb3.1 h;obtain⟨s,w,e,v⟩:=Jla y;exact⟨i,s,qco.1 z,w,e,v⟩
def wvLt (a b:Wv):Prop:=a.1<b.1\/a.1=b.1/\a.2.1<b.2.1
theorem Juf(i n:Nat)(l:List Rc):∀q,(Jdw i n l q).Pairwise wvLt
 | 0=>by unfold Jdw;exact List.Pairwise.nil
 | q + 1=>by
   rw[Jep,List.pairwise_append];refine⟨Juf i n l q,?_,fun a ha b hb=> ?_⟩
   · split
     · exact List.Pairwise.nil
     · exact List.pairwise_singleton _ _
   · split at hb
     · cases hb
     · rw[qag.1 hb]
       obtain⟨s,z,rfl,_⟩:=Jla ha;exact .inr ⟨rfl,z⟩
theorem Jqq(t:Tv):∀k,(Jak t k).Pairwise wvLt
 | 0=>by unfold Jak;exact List.Pairwise.nil
 | k+1=>by
   rw[Jdx,List.pairwise_append];refine⟨Jqq t k,Juf _ _ _ _,fun a ha b hb=> ?_⟩;obtain⟨i,s,z,_,rfl,_⟩:=Jgn ha;obtain⟨s',_,rfl,_⟩:=Jla hb;exact .inl z
theorem Tv.Good.wv(h:t.Good):WvOk (Jak t t.tabs.length):=by
 have q:=h.n
 have fit:∀x∈Jak t t.tabs.length,x.1<5/\x.2.1<8/\1<=x.2.2.length/\x.2.2.length<=10000/\(∀r∈x.2.2,r.Fine)/\x.2.2.Pairwise Rc.lt:=by
  intro x w;obtain⟨i,s,z,p,rfl,y⟩:=Jgn w;have v:=h.sh z;have o:=h.few i z;have m:=Jk6 (t.r.sh i).toNat (t.tab i) s;refine⟨by show i<5;omega,by show s<8;omega,qcv.2 y,by show(Ja2 _ _ _).length<=_;omega,fun r hr=>(h.fine i z r (Jib hr).1).1,(h.ord i z).sublist (Jub _ _ _)⟩
 refine⟨?_,fit,?_⟩
 · have:=Jmo t t.tabs.length (fun j hj=>by have:=h.sh hj;omega)
   omega
 · show List.Pairwise _ _
   rw[List.pairwise_map];refine List.Pairwise.imp_of_mem (fun {a b} ha hb hab=> ?_) (Jqq t t.tabs.length);have l:=fit a ha;have k:=fit b hb;refine Jr8 (by omega) (by omega) (by omega) (by omega) (fun e=> ?_);rcases hab with u | ⟨_,u⟩<;>omega
theorem Tv.Good.needW(h:t.Good):(needW (Jak t t.tabs.length):Int)=t.need:=Ji3 (fun _ hi=>(h.sh hi).1) _ (qab _)
end
noncomputable def ldX (t:Tv) (x:Wv):Tv:=t.setTab x.1 (addL (t.r.ev x.1) (t.tab x.1) x.2.2)
def Pm.w (p:Pm):Wv:=(p.e.tier,p.e.shard,p.l)
theorem J0f(t:Tv)(x:Wv):(ldX t x).tabs.length=t.tabs.length:=Tv.setTab_len _ _ _
theorem Jug(t:Tv)(x:Wv)(h:x.1<t.tabs.length):(ldX t x).tab x.1=addL (t.r.ev x.1) (t.tab x.1) x.2.2:=Tv.setTab_same h
theorem Jqr(t:Tv)(x:Wv){i:Nat}(h:i≠x.1):(ldX t x).tab i=t.tab i:=Tv.setTab_other h
theorem Juh(i:Nat):∀ (xs:List Wv) (t:Tv),((xs.foldl ldX t).tab i).length<=(t.tab i).length+(xs.map fun x=>x.2.2.length).sum
 | [],_=>qab _
 | x :: xs,t=>by
   have h:=Juh i xs (ldX t x);show((xs.foldl ldX (ldX t x)).tab i).length<=_;rw[qbb,qbc]
   have :((ldX t x).tab i).length<=(t.tab i).length+x.2.2.length:=by
    by_cases e:i=x.1
    · subst e
      by_cases z:x.1<t.tabs.length
      · rw[Jug t x z];exact Jja
      · have:(ldX t x).tab x.1=[]:=by
         unfold Tv.tab;rw[qcu,qcc (by rw[J0f];omega)];rfl
        rw[this];simp
    · rw[Jqr t x e];omega
   omega
theorem ldK{k n:Nat}{l:List Rc}(T:Tv)(hk:k<T.tabs.length)(h0:T.tab k=[])(ho:l.Pairwise Rc.lt)(hr:∀r∈l,Jau (T.r.ev k) r=true):∀q,
  ((Jdw k n l q).foldl ldX T).r=T.r/\((Jdw k n l q).foldl ldX T).tabs.length=T.tabs.length/\((Jdw k n l q).foldl ldX T).tab k=below n l q/\∀i,i≠k ->((Jdw k n l q).foldl ldX T).tab i=T.tab i
 | 0=>by
   unfold Jdw;exact⟨rfl,rfl,by rw[Jv5];exact h0,fun _ _=>rfl⟩
 | q +1=>by
   obtain⟨z,y,x,w⟩:=ldK T hk h0 ho hr q (n:=n);rw[Jep,qbo];generalize (Jdw k n l q).foldl ldX T=V at*;by_cases e:Ja2 n l q=[]
   · rw[if_pos e,Jod e]
     exact⟨z,y,x,w⟩
   · rw[if_neg e]
     show(ldX V (k,q,Ja2 n l q)).r=_/\(ldX V (k,q,Ja2 n l q)).tabs.length=_/\(ldX V (k,q,Ja2 n l q)).tab k=_/\∀i,i≠k ->(ldX V (k,q,Ja2 n l q)).tab i=_;refine⟨z,by rw[J0f];exact y,?_,fun i hi=>by rw[Jqr V (k,q,Ja2 n l q) hi];exact w i hi⟩;have:=Jug V (k,q,Ja2 n l q) (by rw[y];exact hk);rw[z,x] at this;rw[show(ldX V (k,q,Ja2 n l q)).tab k=_ from this];exact J0c q ho hr
theorem ldTo{t:Tv}(hg:t.Good)(T:Tv)(hl:T.tabs.length=t.tabs.length)(h0:∀i,T.tab i=[])(hev:∀i,T.r.ev i=t.r.ev i):∀k,k<=t.tabs.length ->
  ((Jak t k).foldl ldX T).r=T.r/\((Jak t k).foldl ldX T).tabs.length=T.tabs.length/\∀i,((Jak t k).foldl ldX T).tab i=if i<k then t.tab i else []
 | 0,_=>by
   unfold Jak;exact⟨rfl,rfl,fun i=>h0 i⟩
 | k +1,hk=>by
   obtain⟨z,x,y⟩:=ldTo hg T hl h0 hev k (by omega);rw[Jdx,qbo];generalize (Jak t k).foldl ldX T=V at*;have w:=hg.sh (show k<t.tabs.length by omega);obtain⟨g1,g2,g3,g4⟩:=ldK (k:=k) (n:=(t.r.sh k).toNat) (l:=t.tab k) V (by omega) (by rw[y,if_neg (by omega)]) (hg.ord k (by omega)) (fun r hr=>by rw[z,hev];exact(hg.fine k (by omega) r hr).2.1) (t.r.sh k).toNat;unfold Jvw;refine⟨g1.trans z,g2.trans x,fun i=> ?_⟩;by_cases e:i=k
   · subst e
     rw[g3,J0a (by omega),if_pos (by omega)]
   · rw[g4 i e,y]
     by_cases e2:i<k
     · rw[if_pos e2,if_pos (by omega)]
     · rw[if_neg e2,if_neg (by omega)]
theorem Jv8{t:Tv}(hg:t.Good)(fl:List Int):(Jak t t.tabs.length).foldl ldX ⟨⟨t.r.now,t.r.nm,t.r.ts,fl⟩,List.replicate t.r.ts.length []⟩=t.withFs fl:=by
 have z:(List.replicate t.r.ts.length ([]:List Rc)).length=t.tabs.length:=by rw[List.length_replicate,hg.len]
 have x:∀i,Tv.tab ⟨⟨t.r.now,t.r.nm,t.r.ts,fl⟩,List.replicate t.r.ts.length []⟩ i=[]:=fun i=>by
  unfold Tv.tab;simp only[qcu,List.getElem?_replicate];split<;>rfl
 obtain⟨w,y,v⟩:=ldTo hg ⟨⟨t.r.now,t.r.nm,t.r.ts,fl⟩,List.replicate t.r.ts.length []⟩ z x (fun _=>rfl) t.tabs.length (qab _);refine Tv.ext_tab w (y.trans z) (fun i hi=> ?_);rw[y,z] at hi;rw[v,if_pos hi];rfl
def savB (t:Tv) (gen:Nat) (v:SvV):List UInt8:=catB gen v.id t.r.now (Py.printL t.r.nm.toList t.r.ts) t.r.all v.es
def savF (B N:Nat) (t:Tv) (gen:Nat) (v:SvV):Int ->Option ByteArray:=
 setS (putN v.f (Jb9 B gen) (chC (savB t gen v)) (nbC (savB t gen v))) ((gen % 2:Nat):Int) (strOf (suB gen N (savB t gen v).length))
structure Jit (w:World) (FB FD:Nat ->Prop) (gx N C B D R gd gen mp bk q gl:Nat) (v:SvV) (ps:List Pm) (t:Tv):Prop where
 st:SvS w FB FD gx N C B D R gd gen v.id mp bk q ps.length (some ⟨gl,0,none⟩) 0 (mapOf ps) (usOf ps) none (Jc3 ps) none (savF B N t gen v)
 log:Jrx w gl ⟨gd,0,none⟩ 2 16 gen
 es:ps.map Pm.e=v.es
theorem J0g{FB FD FT:Nat ->Prop}{gx N C B D R gd gen id mp bk q nP gs:Nat}{lg:Option Addr}{us:List Int}{a b m:Option (List Int)}{f:Int ->Option ByteArray}{t:Tv}(w:World)(h:SvS w FB FD gx N C B D R gd gen id mp bk q nP lg 0 (fun _ _=>none) us a b m f)(hL:Jd9 N C B D R)(hS:StAt w FT gs R t)(hFT:∀x,FT x ->Apart FB FD gx w x)(hW:t.Want)(hV:WvOk (Jak t t.tabs.length))(hG:Glo w)(hfit:∀v,SvG D N ⟨id,us,f,[]⟩ (Jak t t.tabs.length) v ->Jh9 (gen+1) v.id t.r.now t.r.nm t.r.ts t.r.all v.es/\(catB (gen+1) v.id t.r.now (Py.printL t.r.nm.toList t.r.ts) t.r.all v.es).length<=C*256)(hlow:gB<=gx/\∀x,FB x\/FD x ->gB<=x)(hid:id<1000000)(hgen:gen<1000000)(hroom:us.length+needW (Jak t t.tabs.length)<=N - D)(hq:q<=500000):
  Calls Tryz.prog 93 #[.pointer (some ⟨gx,0,none⟩),.pointer (some ⟨gs,0,none⟩)] w fun e w'=>∃FB' FD' mp' bk' gl ps v q',e= .returned (.int .i64 0)/\SvG D N ⟨id,us,f,[]⟩ (Jak t t.tabs.length) v/\q'<=q+10000/\
   Jit w' FB' FD' gx N C B D R gd (gen+1) mp' bk' q' gl v ps t/\SvT w w' FB FD FB' FD' gx/\w.heap.size<=mp'/\(w.heap.size<=gl/\ ¬ FB' gl/\ ¬ FD' gl):=by
 have z:=(qaa w.heap.size w).drew;have y:gB<=gx/\∀x,FB x\/FD x ->gB<=x:=hlow;have U:=zI (J7l w.drew (h.below z) hL (hS.below z) (fun x hx=>by have k:=hFT x hx;exact⟨k.1,k.2.1,k.2.2.1,k.2.2.2⟩) hW hV (hG.below z) hfit y hid hgen hroom hq);have j:=zI h.box.lt;have T:=zI (fun W (hW:Below w.heap.size w W)=>Jjh (h.box.below hW));have S:=zI (fun W (hW:Below w.heap.size w W)=>Jp6 W (hS.below hW));have x6:=h.box.at_ 6 (v:= .int .i64 (R:Int)) rfl;have y6:=(h.box.below z).at_ 6 (v:= .int .i64 (R:Int)) rfl;have x13:=(h.box.below z).at_ 13 (v:= .int .i64 0) rfl;clear h hL hS hFT hW hV hG hfit hlow y hid hgen hroom z;go_enter Tryz.func93,Tryz.ntmps93;go_upto_region 1 with fail
 go_region_held3 (fun w'=>w'.cell? ⟨gx,6,none⟩=some (.int .i64 (R:Int))/\Below w.heap.size w w')
  (exact⟨y6,(qaa _ _).drew⟩)
  (first
    | (go_at_call 76
       refine(T.out _ ?hv).mono ?_
       case hv=>(go_split_ands;assumption)
       rintro e w3 ⟨rfl,rfl⟩)
    | (go_at_call 90
       refine(S.out _ ?hv).mono ?_
       case hv=>(go_split_ands;assumption)
       rintro e w3 ⟨rfl,rfl⟩))
 go_wp2_with fail
 refine U.out.mono ?_;rintro e w1 ⟨FB',FD',mp',bk',gl,ps,v,q',rfl,i,g,d,o,c,Z,Y,u⟩;have l:=zI (show w.heap.size<=mp'/\w.heap.size<=gl/\ ¬ FB' gl/\ ¬ FD' gl from⟨by simpa using Y,by simpa using u.1,u.2⟩);have y13:=o.box.at_ 13 (v:= .int .i64 0) rfl;have f13:=o.box.free 13;have s:=o.boxed 13 (.int .i64 0) (gen':=gen+1) (id':=v.id) (mp':=mp') (bk':=bk') (lg':=some ⟨gl,0,none⟩) (bad':=0) rfl rfl rfl;obtain⟨w2,n⟩:∃w2,w2=w1.setCell ⟨gx,13,none⟩ (.int .i64 0):=⟨_,rfl⟩;have V:gl≠gx:=by have k:=j.out;have I:=l.out.2.1;omega
 have P:Hid (Jrx w2 gl ⟨gd,0,none⟩ 2 16 (gen+1)):=zI (by rw[n];exact Bx.other c (p:=⟨gx,13,none⟩) V _);rw[<- n] at s;have O:=zI n;have M:=zI (((SvT.of_below FB FD gx (qaa w.heap.size w).drew).trans Z).trans s.2);have L:=zI (show Jit w2 FB' FD' gx N C B D R gd (gen+1) mp' bk' q' gl v ps t from⟨s.1,P.out,g⟩);have z13:=s.1.box.at_ 13 (v:= .int .i64 0) rfl;have K:=zI i;have J:=zI d;clear i g d o c Z Y u s n V x6 y6 x13;go_upto_region 6 with fail
 rw[<- O.out];clear y13 f13;go_wp2_with fail
 go_ret;exact⟨FB',FD',mp',bk',gl,ps,v,q',rfl,K.out,J.out,L.out,M.out,l.out.1,l.out.2⟩
theorem J0h{F FT:Nat ->Prop}{gd N C B D R q gs:Nat}{f:Int ->Option ByteArray}{t:Tv}(w:World)(hD:DsAt w F gd N q f)(hL:Jd9 N C B D R)(hS:StAt w FT gs R t)(hFT:∀x,FT x -> ¬ F x)(hW:t.Want)(hV:WvOk (Jak t t.tabs.length))(hG:Glo w)(hlow:∀x,F x ->gB<=x)(hfit:∀v,SvG D N ⟨0,[],Jk3 f 18,[]⟩ (Jak t t.tabs.length) v ->Jh9 (0+1) v.id t.r.now t.r.nm t.r.ts t.r.all v.es/\(catB (0+1) v.id t.r.now (Py.printL t.r.nm.toList t.r.ts) t.r.all v.es).length<=C*256)(hroom:needW (Jak t t.tabs.length)<=N - D)(hq:q<=400000):
  Calls Tryz.prog 37 #[.pointer (some ⟨gd,0,none⟩),.pointer (some ⟨gs,0,none⟩)] w fun e w'=>∃gx FB' FD' mp bk gl ps v q',e= .returned (.tuple #[.pointer (some ⟨gx,0,none⟩),.int .i64 0])/\SvG D N ⟨0,[],Jk3 f 18,[]⟩ (Jak t t.tabs.length) v/\q'<=q+10100/\
   Jit w' FB' FD' gx N C B D R gd 1 mp bk q' gl v ps t/\w.heap.size<=gx/\(∀x,FB' x ->w.heap.size<=x)/\(∀x,FD' x ->grow F w w' x)/\Chg F w w'/\w.heap.size<=mp/\(w.heap.size<=gl/\ ¬ FB' gl/\ ¬ FD' gl):=by
 have Hk:=zI hD.blocks;have V:=Jn9 N w hL.n.1 hL.n.2;rw[<- hL.d,<- hL.b,<- hL.c,<- hL.r] at V;have Hl:=zI V;clear V;have HD:=zI hD;have U:=zI hL;have E:=zI hS;have A:=zI hFT;have Hm:=zI hW;have Hn:=zI hV;have Ho:=zI hG;have hJ:=zI hlow;have T:=zI hG.low;have Hp:=zI hfit;have Hq:=zI hroom;have Hr:=zI (fun W (hW:Below w.heap.size w W)=>Jp6 W (hS.below hW));clear hD hL hS hFT hW hV hG hlow hfit hroom;go_enter Tryz.func37,Tryz.ntmps37;go_wp2_with fail
 refine Hk.out.mono ?_;rintro e w1 ⟨rfl,hw⟩;subst hw;go_wp2_with fail
 refine Hl.out.mono ?_;rintro e w1 ⟨rfl,S⟩;obtain⟨g6,s⟩:∃g6,g6=w1.heap.size:=⟨_,rfl⟩;obtain⟨w2,g⟩:∃w2,w2=w1.alloc (.cells #[.int .i64 (N:Int),.int .i64 2,.int .i64 18,.int .i64 (B:Int),.int .i64 (C:Int),.int .i64 (D:Int),.int .i64 (R:Int)] 64):=⟨_,rfl⟩;have P:=Bx.new w1 64 #[.int .i64 (N:Int),.int .i64 2,.int .i64 18,.int .i64 (B:Int),.int .i64 (C:Int),.int .i64 (D:Int),.int .i64 (R:Int)];rw[<- g,<- s] at P;have Ha:Below w.heap.size w w2:=by rw[g];exact S.alloc S.size _
 have Hs:=zI g;have O:=zI s;have Hb:Below w.heap.size w w2.drew:=Ha.drew;have o:=zI Hb;have M:=P.drew;have y:=zI M;have y6:=M.at_ 6 (v:= .int .i64 (R:Int)) rfl;clear S s g P Ha Hb M;go_upto_region 6 with fail
 rw[<- Hs.out,<- O.out]
 go_region_held3 (fun w'=>w'.cell? ⟨g6,6,none⟩=some (.int .i64 (R:Int))/\Below w.heap.size w w')
  (exact⟨y6,o.out⟩)
  (first
    | (go_at_call 90
       refine(Hr.out _ ?hv).mono ?_
       case hv=>(go_split_ands;assumption)
       rintro e w3 ⟨rfl,rfl⟩))
 clear y6;obtain⟨w3,Hc⟩:∃w3,w3=w2.drew:=⟨_,rfl⟩;rw[<- Hc] at o y ⊢;clear Hc;go_split_ands;have x0:=y.out.at_ 0 (v:= .int .i64 (N:Int)) rfl;have x1:=y.out.at_ 1 (v:= .int .i64 2) rfl;have x2:=y.out.at_ 2 (v:= .int .i64 18) rfl;have x3:=y.out.at_ 3 (v:= .int .i64 (B:Int)) rfl;have x4:=y.out.at_ 4 (v:= .int .i64 (C:Int)) rfl;have x5:=y.out.at_ 5 (v:= .int .i64 (D:Int)) rfl;have x6:=y.out.at_ 6 (v:= .int .i64 (R:Int)) rfl;have Ht:=zI (Jt4 N C B D R gd w3 U.out);go_wp2_with fail
 refine Ht.out.mono ?_;rintro e w4 ⟨gx,mp,bk,FB,rfl,Z⟩;have Hu:=o.out.size;have L:=o.out.trans (Z.bel.mono o.out.size);have K:=Z.low;have m:∀x,F x ->x<w.heap.size:=HD.out.ins;have Kg:=zI m
 have l:SvS w4 FB F gx N C B D R gd 0 0 mp bk q 0 none 0 (fun _ _=>none) [] none none none f:=
  ⟨Z.box,Z.map,Z.book,HD.out.below L,fun x z hd=>by have h1:=K.2.2 x z;have h2:=m x hd;omega,⟨Z.ne.1,fun h=>by have h2:=m _ h;omega⟩,⟨Z.ne.2,fun h=>by have h2:=m _ h;omega⟩⟩
 have Hv:=zI l;have a:=zI L;have k:=zI (show w.heap.size<=gx/\∀x,FB x ->w.heap.size<=x from⟨by omega,fun x z=>by have h1:=K.2.2 x z;omega⟩);have Hw:=zI (J66 w4 l.box l.ngx.2 (by have:=U.out.n;omega) l.disk (by omega));clear Z Hu L K m l x0 x1 x2 x3 x4 x5 x6;go_wp2_with fail
 refine Hw.out.mono ?_;rintro e w5 ⟨rfl,j⟩;have p:=Hv.out.disked j;obtain⟨FD5,u⟩:∃FD5,FD5=grow F w4 w5:=⟨_,rfl⟩;rw[<- u] at p;have Hx:=a.out.size;have J:=p.2.chg.size;have I:=k.out;have Hy:=p.1.box.lt;have H:=zI (show ∀x,FD5 x ->F x\/w.heap.size<=x from fun x z=>by rw[u] at z;exact z.imp (fun h=>h) (fun h=>by have:=h.1;omega))
 have Hz:=zI (show ∀x,FT x ->Apart FB FD5 gx w5 x from fun x z=>by
  have h1:=E.out.ins x z;refine⟨fun h=> ?_,fun h=> ?_,by omega,by omega⟩
  · have:=I.2 x h;omega
  · rcases H.out x h with h | h
    · exact A.out x z h
    · omega)
 have Y:=(E.out.below a.out).chg j.chg (fun x z hf=>A.out x z hf);have Hd:=(Ho.out.below a.out).chg j.chg (fun x z=>hJ.out x z)
 have H0:=zI (J0g w5 p.1 U.out Y Hz.out Hm.out Hn.out Hd Hp.out ⟨by have:=T.out;omega,fun x z=>by
  rcases z with z | z
  · have h1:=I.2 x z;have:=T.out;omega
  · rcases H.out x z with h | h
    · exact hJ.out x h
    · have:=T.out;omega⟩ (by omega) (by omega) (by have:=Hq.out;simp;omega) (by omega))
 have Kh:=zI p.1;have He:=zI (show Chg F w w5 from(Chg.of_below a.out).trans j.chg (fun x h=> .inl h));have H9:=zI (show ∀x,FD5 x ->grow F w w5 x from fun x z=>by rw[u] at z;exact z.imp (fun h=>h) (fun h=>⟨by have:=h.1;omega,h.2⟩));clear j p u Hx J I Hy Y Hd;go_wp2_with fail
 refine H0.out.mono ?_;rintro e w6 ⟨FB',FD',mp',bk',gl,ps,v,q',rfl,s,Hf,Hg,i,Ka,G⟩;have J:=He.out.size;have Hh:=i.chg.size;have O:=zI s;have Hi:=G.1;have Hj:=zI (show w.heap.size<=mp'/\w.heap.size<=gl/\ ¬ FB' gl/\ ¬ FD' gl from⟨by omega,by omega,G.2⟩);have Kb:=zI Hg;have Kc:=zI Hf
 have Kd:=zI (show ∀x,FB' x ->w.heap.size<=x from fun x z=>by
  rcases i.fb x z with h | h
  · exact k.out.2 x h
  · have:=h.1;omega)
 have Ke:=zI (show ∀x,FD' x ->grow F w w6 x from fun x z=>by
  rcases i.fd x z with h | h
  · exact Jcd (H9.out x h) Hh
  · exact .inr ⟨by have:=h.1;omega,h.2⟩)
 have Kf:=zI (show Chg F w w6 from He.out.trans i.chg (fun x z=>by
  rcases z with rfl | z | z
  · exact .inr k.out.1
  · exact .inr (k.out.2 x z)
  · exact H.out x z))
 clear s Hf Hg i J Hh Ka G Hi;go_wp2_with fail
 go_ret2;exact⟨gx,FB',FD',mp',bk',gl,ps,v,q',rfl,O.out,by have:=Kc.out;omega,Kb.out,k.out.1,Kd.out,Ke.out,Kf.out,Hj.out.1,Hj.out.2⟩
def webT:Tv:=Tv.new ⟨Py.webNm.toArray⟩ Py.webTs 0
theorem J0i(i:Nat):webT.r.from_ i=0:=by
 match i with
 | 0=>decide
 | 1=>decide
 | k+2=>rfl
theorem Jjj(i:Nat):webT.tab i=[]:=by
 match i with
 | 0=>rfl
 | 1=>rfl
 | k+2=>rfl
theorem Jv9:webT.r.nm.size<=maxLen:=by show(3:Nat)<=maxLen;unfold maxLen;omega
theorem Jbk:webT.Good:=by
 refine⟨by show Py.checkR (⟨Py.webNm.toArray⟩:ByteArray).toList Py.webTs=(0,0);rw[Py.toList_mk];exact Py.web_check,Jv9,rfl,⟨by decide,by decide⟩,fun i z=> ?_,fun i _=> ?_,fun i _ r hr=> ?_,fun i _=> ?_⟩
 · rw[J0i]
   refine⟨by omega,by omega,?_⟩;have z:i<2:=z
   match i with
   | 0=>decide
   | 1=>decide
 · rw[Jjj];exact List.Pairwise.nil
 · rw[Jjj] at hr;cases hr
 · rw[Jjj];exact qak _
theorem J7m(v:Int):ofL [v]=oneG v:=by
 show Jdz Ag.zero (oneG v)=_;unfold Jdz;rw[if_pos (show Ag.zero.c=0 from rfl)]
theorem Jms(v:Int):Jb2 (oneG v)=true:=by
 unfold Jb2 oneG;exact qa0 ⟨by show(1:Int)<=1;omega,by show(1:Int)<=4611686018427387904;omega,Int.le_refl _⟩
theorem Jf3:webT.need=0:=rfl
theorem Jsk{a b:Ag}(hb:Jb2 b=true):Jb2 (Jbe [a,b])=true:=by
 have w:=Jf6 hb
 have e:Jbe [a,b]=Jdz (Jap Ag.zero a) b:=by
  show Jap (Jap Ag.zero a) b=_;generalize Jap Ag.zero a=s;unfold Jap;rw[if_pos hb]
 rw[e]
 have z:(Jap Ag.zero a).c=0\/1<=(Jap Ag.zero a).c/\(Jap Ag.zero a).mn<=(Jap Ag.zero a).mx:=by
  unfold Jap;split
  · next h=>
    have y:=Jf6 h;have:Jdz Ag.zero a=a:=if_pos rfl;rw[this];exact .inr ⟨y.1,y.2.2⟩
  · exact .inl rfl
 generalize Jap Ag.zero a=s at*;unfold Jdz;by_cases x:s.c=0
 · rw[if_pos x];exact hb
 · rw[if_neg x]
   unfold Jb2;rcases z with z | ⟨y,v⟩
   · exact absurd z x
   · refine qa0 ⟨?_,?_,?_⟩
     · dsimp only;split<;>omega
     · dsimp only;split<;>omega
     · dsimp only;omega
theorem J30{l:List Rc}(h:∀r∈l,r.Fine)(s:ByteArray)(n:Int):(agAt l s n).Fit:=by
 unfold agAt;cases hf:Jig l s n with
 | none=>exact Ag.Fit.zero
 | some r=>exact(h r (Jeb hf).1).ok.ag
theorem J31{ev:Int}{l:List Rc}{r z:Rc}(hz:z∈addR ev l r):z∈l\/Jau ev r=true/\z=⟨r.nm,r.st,Jbe [agAt l r.nm r.st,r.ag]⟩:=by
 unfold addR at hz;split at hz
 · next h=>exact(Ji8 hz).elim (fun e=> .inr ⟨h,e⟩) .inl
 · exact .inl hz
theorem J0j{ev fr:Int}{l:List Rc}{r:Rc}(hl:∀z∈l,z.Fine/\Jau ev z=true/\fr<=z.st)(hr:r.Fine)(hf:fr<=r.st):∀z∈addR ev l r,z.Fine/\Jau ev z=true/\fr<=z.st:=by
 intro z x;rcases J31 x with h | ⟨y,rfl⟩
 · exact hl z h
 · have w:=Jsk (a:=agAt l r.nm r.st) hr.ag
   refine⟨⟨⟨hr.ok.nm,hr.ok.st,Ag.Fit.merge fun a ha=> ?_⟩,hr.nm,hr.st,w⟩,?_,hf⟩
   · simp only[qbf,List.not_mem_nil,or_false] at ha
     rcases ha with rfl | rfl
     · exact(J30 (fun z x=>(hl z x).1) _ _).ok
     · exact hr.ok.ag.ok
   · unfold Jau at y ⊢
     simp only[qcx] at y ⊢;exact⟨y.1,w⟩
theorem J8x{t e:Int}(h:0<=t)(he:1<=e):onB (flr t e) e=true:=by
 have z:=Jjv h he;refine qa0 ⟨he,?_⟩;rw[Ji9 z.1];unfold flr;have:=Int.emod_add_mul_ediv t e;rw[show t - t % e=e*(t / e) from by omega];exact Int.mul_emod_right _ _
section
variable {t:Tv}
theorem J32(hg:t.Good){s:Smp}(hs:t.r.Gets s){i:Nat}(hi:i<t.tabs.length)(hh:t.r.has (i:Int) s.tm=true):(t.r.rec_ i s).Fine/\Jau (t.r.ev i) (t.r.rec_ i s)=true/\t.r.from_ i<=(t.r.rec_ i s).st:=by
 obtain⟨K,_⟩:=hg.ti hi;have w:=hg.ev hi;have q:isB t.r.ts.length (i:Int)=true:=Jwu K;have y:=hs.tm;have p:=hg.now
 have e1:t.r.start (i:Int) s.tm=flr s.tm (t.r.ev i):=by
  unfold Rch.start;rw[if_pos ⟨q,y.1⟩];show flrE s.tm (((t.r.ts[(i:Int).toNat]?).map Ti.ev).getD 0)=_;rw[qa2];show flrE s.tm (t.r.ev i)=_;unfold flrE;rw[if_neg (by omega)]
 have v:=Jjv y.1 w.1
 have u:t.r.from_ i<=flr s.tm (t.r.ev i):=by
  unfold Rch.has at hh;simp only[qcx,qce] at hh;have:=hh.2;unfold Rch.fromI at this;rw[if_pos q,qa2,e1] at this;exact this
 have z:(t.r.rec_ i s).st=flr s.tm (t.r.ev i):=e1;have x:(t.r.rec_ i s).ag=oneG s.vl:=J7m s.vl
 have o:s.nm.size<=15:=by
  have h:=hs.nm;unfold Jaf at h;simp only[qcx,qce,Jac] at h;exact h.1.2
 refine⟨⟨⟨by show s.nm.size<=maxLen;unfold maxLen;omega,by rw[z];exact Jb7 (by omega),by rw[x];exact Ag.Fit.one hs.ok.vl⟩,hs.nm,by rw[z];omega,by rw[x];exact Jms _⟩,?_,by rw[z];exact u⟩;unfold Jau;rw[show(t.r.rec_ i s).nm=s.nm from rfl,z,x,hs.nm,Jms,J8x y.1 w.1];simp[v.1]
theorem Jmt(hg:t.Good){s:Smp}(hs:t.r.Gets s):∀k,k<=t.tabs.length ->∀i,i<t.tabs.length ->((t.putTo s k).tab i).Pairwise Rc.lt/\∀z∈(t.putTo s k).tab i,z.Fine/\Jau (t.r.ev i) z=true/\t.r.from_ i<=z.st
 | 0,_,i,hi=>⟨hg.ord i hi,hg.fine i hi⟩
 | k + 1,hk,i,hi=>by
   have ih:=Jmt hg hs k (by omega) i hi;simp only[Tv.putTo];split
   · next hh=>
     by_cases e:i=k
     · subst e
       rw[Tv.setTab_same (by rw[Tv.putTo_len];exact hi)];have y:=J32 hg hs hi hh;exact⟨Joc ih.1,J0j ih.2 y.1 y.2.2⟩
     · rw[Tv.setTab_other e];exact ih
   · exact ih
theorem J0k(hg:t.Good){s:Smp}(hs:t.r.Gets s)(hfew:∀i,i<t.tabs.length ->(t.tab i).length<=9999):(t.put1 s).Good:=by
 have z:=t.putTo_r s t.tabs.length;have y:=t.putTo_len s t.tabs.length;have x:=fun i hi=>Jmt hg hs t.tabs.length (qab _) i hi;have w:=fun i hi=>(Tv.putTo_few (s:=s) hfew t.tabs.length i hi).1;show(t.putTo s t.tabs.length).Good;refine⟨by rw[z];exact hg.ck,by rw[z];exact hg.nm,by rw[z,y];exact hg.len,by rw[z];exact hg.now,by rw[z];exact hg.flo,fun i hi=> ?_,fun i hi=> ?_,fun i hi=> ?_⟩
 · rw[y] at hi;exact(x i hi).1
 · rw[y] at hi;rw[z];exact(x i hi).2
 · rw[y] at hi;exact w i hi
theorem Jui:∀ {l:List Smp} {t:Tv} {N:Nat},t.Good ->(∀s∈l,t.r.Gets s) ->(∀i,i<t.tabs.length ->(t.tab i).length<=N) ->N+l.length<=10000 ->(t.put l).Good
 | [],_,_,hg,_,_,_=>hg
 | s::l,t,N,hg,hs,hN,hn=>by
   rw[qbr] at hn;have z:=J0k hg (hs s (by simp)) (fun i hi=>by have:=hN i hi;omega);have y:(t.put1 s).r=t.r:=t.putTo_r s t.tabs.length;have w:(t.put1 s).tabs.length=t.tabs.length:=t.putTo_len s t.tabs.length;exact Jui (l:=l) (N:=N+1) z (fun x hx=>by rw[y];exact hs x (by simp[hx])) (fun i hi=>by rw[w] at hi;exact(Tv.putTo_few (s:=s) hN t.tabs.length i hi).1) (by omega)
end
def webN (now:Int):Tv:=⟨⟨now,⟨Py.webNm.toArray⟩,Py.webTs,[]⟩,[[],[]]⟩
theorem Jjk(now:Int)(i:Nat):(webN now).tab i=[]:=by
 match i with
 | 0=>rfl
 | 1=>rfl
 | k+2=>rfl
theorem J0l{now:Int}(h:0<=now/\now<=1099511627776):(webN now).Good:=by
 have z:=Jbk;refine⟨z.ck,z.nm,rfl,h,fun i y=> ?_,fun i _=> ?_,fun i _ r hr=> ?_,fun i _=> ?_⟩
 · have y:i<2:=y
   have key:∀kp e:Int,0<=kp ->kp<=100000 ->(e=1\/e=10) ->0<=Jeu now kp 10/\Jeu now kp 10<=4611686018427387904/\onB (Jeu now kp 10) e=true:=by
    intro kp e u s x;unfold Jeu;by_cases w:now<0\/kp<0\/(10:Int)<1\/now<kp
    · rw[if_pos w]
      refine⟨by omega,by omega,?_⟩;rcases x with rfl | rfl<;>decide
    · rw[if_neg w]
      have v:=Jjv (t:=now - kp) (e:=10) (by omega) (by omega);refine⟨v.1,by omega,qa0 ⟨by omega,?_⟩⟩;rw[Ji9 v.1];unfold flr;rcases x with rfl | rfl<;>omega
   match i with
   | 0=>exact key 100 1 (by omega) (by omega) (.inl rfl)
   | 1=>exact key 1000 10 (by omega) (by omega) (.inr rfl)
 · rw[Jjk];exact List.Pairwise.nil
 · rw[Jjk] at hr;cases hr
 · rw[Jjk];exact qak _
end Go.Proofs.YtglmhddbhhcjdaaGreatDoor
