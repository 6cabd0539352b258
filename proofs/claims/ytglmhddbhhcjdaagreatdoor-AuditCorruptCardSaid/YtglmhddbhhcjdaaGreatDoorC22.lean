/- Laws that the walk of the last text wants. -/
import Derived.Test.YtglmhddbhhcjdaaGreatDoorC11
import Derived.Test.YtglmhddbhhcjdaaGreatDoorC10
set_option maxRecDepth 100000
set_option linter.unusedSimpArgs false
set_option maxHeartbeats 4000000
namespace Go.Proofs.YtglmhddbhhcjdaaGreatDoor.Py
open Go.RowKit
theorem Jle{d:Nat}(h:d<10):(UInt8.ofNat (48+d)).toNat=48+d:=by
 rw[UInt8.toNat_ofNat'];omega
theorem Jzr(u:Nat):(Lib.decDigits u).all digB=true:=by
 induction u using Nat.strongRecOn with
 | _ u ih=>
   by_cases h:u<10
   · rw[Lib.decDigits,dif_pos h]
     simp[digB];omega
   · rw[Lib.decDigits,dif_neg h,List.all_append,ih _ (by omega)]
     simp[digB];omega
theorem J76(u:Nat):numN (Lib.decDigits u)=u:=by
 induction u using Nat.strongRecOn with
 | _ u ih=>
   by_cases h:u<10
   · rw[Lib.decDigits,dif_pos h]
     have:=Jle h;simp only[numN,List.foldl_cons,List.foldl_nil,this];omega
   · rw[Lib.decDigits,dif_neg h,Jft,ih _ (by omega),Jle (by omega)];omega
theorem Juu(u:Nat):Lib.decDigits u≠[]:=by
 rw[Lib.decDigits];split<;>simp
theorem J4v(u:Nat)(h1:1<=u):(Lib.decDigits u).head? ≠some 48:=by
 induction u using Nat.strongRecOn with
 | _ u ih=>
   by_cases h:u<10
   · rw[Lib.decDigits,dif_pos h]
     intro e;have e2:UInt8.ofNat (48+u)=48:=(by simpa using e);have:=congrArg UInt8.toNat e2;rw[Jle h] at this;have z:(48:UInt8).toNat=48:=rfl;omega
   · rw[Lib.decDigits,dif_neg h]
     have:=ih (u / 10) (by omega) (by omega);cases hh:Lib.decDigits (u / 10) with
     | nil=>exact absurd hh (Juu _)
     | cons a r=>rw[hh] at this;simpa using this
theorem Joi{u:Nat}(h:u<=1000000):(Lib.decDigits u).length<=7:=by
 rw[Lib.decDigits_length]
 have big:∀v,Lib.nDigits v=if v<10 then 1 else Lib.nDigits (v / 10)+1:=fun v=>by
  by_cases z:v<10
  · rw[qa0 z,Lib.nDigits_small z]
  · rw[qay z,Lib.nDigits_big z]
 rw[big];split<;>try omega
 rw[big];split<;>try omega
 rw[big];split<;>try omega
 rw[big];split<;>try omega
 rw[big];split<;>try omega
 rw[big];split<;>try omega
 rw[big];split<;>omega
theorem Juv{l:List UInt8}(h:l.all digB=true):∀c∈l,c≠45/\Jc4 c.toNat=false/\c≠10/\c≠32/\c≠35/\okB c=true:=by
 intro c y;have z:=qdr.1 h c y;unfold digB at z;simp only[qb1,qbc] at z;refine⟨?_,?_,?_,?_,?_,?_⟩
 · rintro rfl;revert z;decide
 · exact qae (by omega)
 · rintro rfl;revert z;decide
 · rintro rfl;revert z;decide
 · rintro rfl;revert z;decide
 · unfold okB Jgf
   rw[qaj (show 32<(c.toNat:Int)/\(c.toNat:Int)<127 by omega)];simp
theorem Jc1{n:Int}(h:1<=n):Lib.itoa n=Lib.decDigits n.toNat:=by unfold Lib.itoa;rw[qay (by omega)]
theorem Joj{n:Int}(h:1<=n)(h2:n<=1000000):numR (Lib.itoa n)=some n:=by
 rw[Jc1 h];have z:=Jzr n.toNat
 have y:Lib.hasPrefix (Lib.decDigits n.toNat) [45]=false:=by
  cases hh:Lib.decDigits n.toNat with
  | nil=>exact absurd hh (Juu _)
  | cons a r=>
    have:=(Juv z a (by rw[hh];simp)).1;show List.isPrefixOf [45] (a::r)=false;simp[List.isPrefixOf];exact fun e=>this e.symm
 have x:Lib.trimPrefix (Lib.decDigits n.toNat) [45]=Lib.decDigits n.toNat:=by unfold Lib.trimPrefix;rw[y];rfl
 have w:Jfk (Lib.decDigits n.toNat) false=false:=by
  have t:=Joi (u:=n.toNat) (by omega);have s:0<(Lib.decDigits n.toNat).length:=qdd.2 (Juu _);have v:=J4v n.toNat (by omega);unfold Jfk;rw[qae (show ¬ (Lib.decDigits n.toNat).length=0 by omega),qae (show ¬ 18<(Lib.decDigits n.toNat).length by omega),qat.2 v];rfl
 unfold numR;rw[x,y,w,qay (by decide),qa0 z,qay (by decide),J76]
 congr 1;omega
def Jf8 (t:Ti):List UInt8:=
 Jhb++[32]++t.nm.toList++[32]++Jcq++[32]++Lib.itoa t.ev++[32]++Jfm++[32]++Lib.itoa t.kp++[32]++Jbu++[32]++Lib.itoa t.sh++[10]
theorem Jzs(t:Ti)(r:List UInt8):Jf8 t++r=Jhb++(32::(t.nm.toList++(32::(Jcq++(32::(Lib.itoa t.ev++(32::(Jfm++(32::(Lib.itoa t.kp++(32::(Jbu++(32::(Lib.itoa t.sh++(10::r))))))))))))))):=by simp[Jf8]
def printL (nm:List UInt8) (ts:List Ti):List UInt8:=Jdb++(32::(nm++[10]))++ts.flatMap Jf8
def SpG (g:List UInt8):Prop:=g=[32]\/g=[32,32]\/g=[9]\/g=[32,9,32]
def NlG (g:List UInt8):Prop:=g=[10]\/g=[10,10]\/g=[32,35,32,120,32,121,10]\/g=[10,35,32,116,105,101,114,32,122,10]
inductive Exp:List UInt8 ->List UInt8 ->Prop
 | nil:Exp [] []
 | plain (c:UInt8) (a b:List UInt8):c≠32 ->c≠10 ->Exp a b ->Exp (c::a) (c::b)
 | sp (g a b:List UInt8):SpG g ->Exp a b ->Exp (32::a) (g++b)
 | nl (g a b:List UInt8):NlG g ->Exp a b ->Exp (10::a) (g++b)
theorem Exp.refl:∀l,Exp l l
 | []=> .nil
 | c ::r=>by
   by_cases z:c=32
   · subst z;exact .sp [32] r r (.inl rfl) (Exp.refl r)
   · by_cases y:c=10
     · subst y;exact .nl [10] r r (.inl rfl) (Exp.refl r)
     · exact .plain c r r z y (Exp.refl r)
theorem Exp.empty{b:List UInt8}(h:Exp [] b):b=[]:=by cases h;rfl
theorem Exp.word:∀ (w:List UInt8) {r b:List UInt8},(∀c∈w,c≠32/\c≠10) ->Exp (w++r) b ->∃b',b=w++b'/\Exp r b'
 | [],r,b,_,h=>⟨b,rfl,h⟩
 | c ::w,r,b,hw,h=>by
   have z:=hw c (by simp);cases h with
   | plain _ _ b1 _ _ h1=>
     obtain⟨b',e,y⟩:=Exp.word w (fun x hx=>hw x (by simp[hx])) h1;exact⟨b',by rw[e];rfl,y⟩
   | sp=>exact absurd rfl z.1
   | nl=>exact absurd rfl z.2
theorem Exp.space{r b:List UInt8}(h:Exp (32::r) b):∃g b',b=g++b'/\SpG g/\Exp r b':=by
 cases h with
 | plain _ _ _ h1=>exact absurd rfl h1
 | sp g _ b' hg h1=>exact⟨g,b',rfl,hg,h1⟩
theorem Exp.line{r b:List UInt8}(h:Exp (10::r) b):∃g b',b=g++b'/\NlG g/\Exp r b':=by
 cases h with
 | plain _ _ _ _ h2=>exact absurd rfl h2
 | nl g _ b' hg h1=>exact⟨g,b',rfl,hg,h1⟩
theorem SpG.gap{g:List UInt8}(h:SpG g):Gap g:=by
 rcases h with rfl | rfl | rfl | rfl<;>exact⟨by decide,by decide⟩
theorem SpG.ok{g:List UInt8}(h:SpG g):∀c∈g,c=10\/okB c=true:=by rcases h with rfl | rfl | rfl | rfl<;>decide
theorem NlG.ok{g:List UInt8}(h:NlG g):∀c∈g,c=10\/okB c=true:=by rcases h with rfl | rfl | rfl | rfl<;>decide
theorem Exp.ok{a b:List UInt8}(h:Exp a b):(∀c∈a,c=10\/okB c=true) ->∀c∈b,c=10\/okB c=true:=by
 induction h with
 | nil=>exact fun h=>h
 | plain x a b _ _ _ ih=>
   intro h c z;rcases qbb.1 z with rfl | z
   · exact h _ (by simp)
   · exact ih (fun y hy=>h y (by simp[hy])) c z
 | sp g a b hg _ ih=>
   intro h c z;rcases qbe.1 z with z | z
   · exact hg.ok c z
   · exact ih (fun y hy=>h y (by simp[hy])) c z
 | nl g a b hg _ ih=>
   intro h c z;rcases qbe.1 z with z | z
   · exact hg.ok c z
   · exact ih (fun y hy=>h y (by simp[hy])) c z
structure Wrd (w:List UInt8):Prop where
 plain:Jky w
 sep:∀c∈w,c≠32/\c≠10
 head:w.head? ≠some 35
 ok:∀c∈w,okB c=true
theorem Wrd.of{w:List UInt8}(h:w≠[])(h2:∀c∈w,Jc4 c.toNat=false/\c≠10/\c≠32/\c≠35/\okB c=true):Wrd w:=
 ⟨⟨h,fun c hc=>(h2 c hc).1⟩,fun c hc=>⟨(h2 c hc).2.2.1,(h2 c hc).2.1⟩,fun e=>by
  cases w with
  | nil=>exact h rfl
  | cons a r=>simp at e;exact(h2 a (by simp)).2.2.2.1 e,fun c hc=>(h2 c hc).2.2.2.2⟩
theorem Ji2:Wrd Jdb:=Wrd.of (by decide) (by decide)
theorem Jok:Wrd Jhb:=Wrd.of (by decide) (by decide)
theorem Jlf:Wrd Jcq:=Wrd.of (by decide) (by decide)
theorem Jol:Wrd Jfm:=Wrd.of (by decide) (by decide)
theorem Ji3:Wrd Jbu:=Wrd.of (by decide) (by decide)
theorem Jfe{n:Int}(h:1<=n):Wrd (Lib.itoa n):=by
 rw[Jc1 h];exact Wrd.of (Juu _) (fun c hc=>(Juv (Jzr _) c hc).2)
theorem Jgp{l:List UInt8}(h:Jae l=true):Wrd l:=by
 unfold Jae Jbg at h;simp only[qb1,qbc] at h;refine Wrd.of (fun e=>by subst e;simp at h) (fun c hc=> ?_);have z:=qdr.1 h.2 c hc;unfold Jdt at z;have y:=qb7 z;refine⟨qae (by omega),?_,?_,?_,?_⟩
 · rintro rfl;revert z;decide
 · rintro rfl;revert z;decide
 · rintro rfl;revert z;decide
 · unfold okB Jgf
   rw[qaj (show 32<(c.toNat:Int)/\(c.toNat:Int)<127 by omega)];simp
theorem Jom:∀ (a b:List (List UInt8)),(∀t∈a,t.head? ≠some 35) ->remG (a++b)=a++remG b
 | [],_,_=>rfl
 | x::r,b,h=>by
   have z:(x.head? !=some 35)=true:=bne_iff_ne.2 (h x (by simp));show List.takeWhile _ (x::(r++b))=_;rw[qc2,qa0 z];show x::remG (r++b)=_;rw[Jom r b (fun t ht=>h t (by simp[ht]))];rfl
theorem Juw{h b:List UInt8}(hh:NlG h)(ps:List (List UInt8×List UInt8))(w:List UInt8)(hp:∀p∈ps,Wrd p.1/\SpG p.2)(hw:Wrd w):
  ∃x z,Jar ((Jd0 ps++w)++(h++b))=x::(z++Jar b)/\Jfv x=ps.map Prod.fst++[w]/\∀l∈z,Jfv l=[]:=by
 have y:∀c∈Jd0 ps++w,c≠10:=by
  intro c v;rcases qbe.1 v with v | v
  · unfold Jd0 at v
    obtain⟨p,r,v⟩:=qcs.1 v;rcases qbe.1 v with v | v
    · exact((hp p r).1.sep c v).2
    · have k:=(hp p r).2.gap.blank c v
      rintro rfl;revert k;decide
  · exact(hw.sep c v).2
 have q:∀p∈ps,Jky p.1/\Gap p.2:=fun p s=>⟨(hp p s).1.plain,(hp p s).2.gap⟩
 have u:∀t∈ps.map Prod.fst++[w],t.head? ≠some 35:=by
  intro t o;rcases qbe.1 o with o | o
  · obtain⟨p,s,rfl⟩:=qbn.1 o
    exact(hp p s).1.head
  · rw[qa1.1 o];exact hw.head
 have n:Jfv (Jd0 ps++w)=ps.map Prod.fst++[w]:=by
  rw[(Jmh ps q w hw.plain).1];have:=Jom _ [] u;rw[qbp] at this;rw[this];simp[remG]
 have m:∀l∈([[]]:List (List UInt8)),Jfv l=[]:=by decide
 rcases hh with rfl | rfl | rfl | rfl
 · exact⟨_,[],by rw[show([10]:List UInt8)++b=10::b from rfl,Jb0 _ _ y];rfl,n,by simp⟩
 · refine⟨_,[[]],?_,n,m⟩
   rw[show([10,10]:List UInt8)++b=10::10::b from rfl,Jb0 _ _ y];rw[show(10:UInt8)::b=[]++10::b from rfl,Jb0 _ _ (by simp)];rfl
 · refine⟨(Jd0 ps++w)++[32,35,32,120,32,121],[],?_,?_,by simp⟩
   · rw[show(Jd0 ps++w)++(([32,35,32,120,32,121,10]:List UInt8)++b)=((Jd0 ps++w)++[32,35,32,120,32,121])++10::b from by simp]
     refine Jb0 _ _ (fun c v=> ?_);rcases qbe.1 v with v | v
     · exact y c v
     · exact(by decide:∀c∈([32,35,32,120,32,121]:List UInt8),c≠10) c v
   · have e:(Jd0 ps++w)++[32,35,32,120,32,121]=Jd0 (ps++[(w,[32]),([35],[32]),([120],[32])])++[121]:=by simp[Jd0]
     rw[e,(Jmh _ (fun p s=> ?_) [121] ⟨by decide,by decide⟩).1]
     · have e3:List.map Prod.fst (ps++[(w,[32]),(([35]:List UInt8),([32]:List UInt8)),([120],[32])])++[[121]]=(List.map Prod.fst ps++[w])++[[35],[120],[121]]:=by simp
       rw[e3,Jom _ _ u];simp[remG]
     · rcases qbe.1 s with s | s
       · exact q p s
       · simp at s
         rcases s with rfl | rfl | rfl
         · exact⟨hw.plain,(⟨by decide,by decide⟩:Gap [32])⟩
         · exact⟨(⟨by decide,by decide⟩:Jky [35]),(⟨by decide,by decide⟩:Gap [32])⟩
         · exact⟨(⟨by decide,by decide⟩:Jky [120]),(⟨by decide,by decide⟩:Gap [32])⟩
 · refine⟨_,[[35,32,116,105,101,114,32,122]],?_,n,?_⟩
   · rw[show(([10,35,32,116,105,101,114,32,122,10]:List UInt8)++b)=10::([35,32,116,105,101,114,32,122]++10::b) from rfl,Jb0 _ _ y,Jb0 _ _ (by decide)];rfl
   · decide
theorem Jhi(nm:List UInt8):∀ (z L:List (List UInt8)) (n:Int) (acc:List Ti),(∀l∈z,Jfv l=[]) ->Jdz nm n (z++L) acc=Jdz nm (n+(z.length:Nat)) L acc
 | [],L,n,acc,_=>by simp
 | l::r,L,n,acc,h=>by
   show Jdz nm n (l::(r++L)) acc=_;rw[Jdz,qa0 (h l (by simp)),Jhi nm r L (n+1) acc (fun x hx=>h x (by simp[hx]))]
   congr 1;simp;omega
structure _root_.Go.Proofs.YtglmhddbhhcjdaaGreatDoor.Ti.Fine (t:Ti):Prop where
 nm:Jae t.nm.toList=true
 ev:1<=t.ev/\t.ev<=1000000
 kp:1<=t.kp/\t.kp<=1000000
 sh:1<=t.sh/\t.sh<=8
theorem Jwm(t:Ti)(h:t.Fine)(n:Nat)(hn:n<5):Jdf [Jhb,t.nm.toList,Jcq,Lib.itoa t.ev,Jfm,Lib.itoa t.kp,Jbu,Lib.itoa t.sh] n=true/\Jnv [Jhb,t.nm.toList,Jcq,Lib.itoa t.ev,Jfm,Lib.itoa t.kp,Jbu,Lib.itoa t.sh]=t:=by
 have e1:=Joj h.ev.1 h.ev.2;have e2:=Joj h.kp.1 h.kp.2;have e3:=Joj h.sh.1 (by have:=h.sh.2;omega);constructor
 · unfold Jdf Jhz txt
   simp[e1,e2,e3];omega
 · unfold Jnv Jh0 txt
   simp[e1,e2,e3];rw[qaw]
theorem Jms(nm:List UInt8):∀ (ts:List Ti) (b:List UInt8) (n:Int) (acc:List Ti),(∀t∈ts,t.Fine) ->acc.length+ts.length<=5 ->Exp (ts.flatMap Jf8) b ->Jdz nm n (Jar b) acc= .good nm (acc++ts)
 | [],b,n,acc,_,_,h=>by
   rw[Exp.empty h];show Jdz nm n [[]] acc=_;rw[Jdz,qa0 (by decide),Jdz];simp
 | t::r,b,n,acc,hf,hl,h=>by
   have y:=hf t (by simp);rw[qau,Jzs] at h;obtain⟨b1,e1_,k⟩:=Exp.word _ Jok.sep h;subst e1_;obtain⟨g1,b2,e2_,G1,j⟩:=Exp.space k;subst e2_;obtain⟨b3,e3_,i⟩:=Exp.word _ (Jgp y.nm).sep j;subst e3_;obtain⟨g2,b4,e4_,G2,g⟩:=Exp.space i;subst e4_;obtain⟨b5,e5_,f⟩:=Exp.word _ Jlf.sep g;subst e5_;obtain⟨g3,b6,e6_,G3,d⟩:=Exp.space f;subst e6_;obtain⟨b7,e7_,c⟩:=Exp.word _ (Jfe y.ev.1).sep d;subst e7_;obtain⟨g4,b8,e8_,G4,a⟩:=Exp.space c;subst e8_;obtain⟨b9,e9_,Z⟩:=Exp.word _ Jol.sep a;subst e9_;obtain⟨g5,b10,e10_,G5,w⟩:=Exp.space Z;subst e10_;obtain⟨b11,e11_,v⟩:=Exp.word _ (Jfe y.kp.1).sep w;subst e11_;obtain⟨g6,b12,e12_,G6,s⟩:=Exp.space v;subst e12_;obtain⟨b13,e13_,q⟩:=Exp.word _ Ji3.sep s;subst e13_;obtain⟨g7,b14,e14_,G7,o⟩:=Exp.space q;subst e14_;obtain⟨b15,e15_,m⟩:=Exp.word _ (Jfe y.sh.1).sep o;subst e15_;obtain⟨g8,b16,e16_,G8,l⟩:=Exp.line m;subst e16_
   have key:=Juw (b:=b16) G8 [(Jhb,g1),(t.nm.toList,g2),(Jcq,g3),(Lib.itoa t.ev,g4),(Jfm,g5),(Lib.itoa t.kp,g6),(Jbu,g7)] (Lib.itoa t.sh) (fun p hp=>by
    simp only[qbb,List.not_mem_nil,or_false] at hp;rcases hp with rfl | rfl | rfl | rfl | rfl | rfl | rfl
    · exact⟨Jok,G1⟩
    · exact⟨Jgp y.nm,G2⟩
    · exact⟨Jlf,G3⟩
    · exact⟨Jfe y.ev.1,G4⟩
    · exact⟨Jol,G5⟩
    · exact⟨Jfe y.kp.1,G6⟩
    · exact⟨Ji3,G7⟩) (Jfe y.sh.1)
   obtain⟨x,z,e,W,V⟩:=key;rw[show Jhb++(g1++(t.nm.toList++(g2++(Jcq++(g3++(Lib.itoa t.ev++(g4++(Jfm++(g5++(Lib.itoa t.kp++(g6++(Jbu++(g7++(Lib.itoa t.sh++(g8++b16)))))))))))))))=(Jd0 [(Jhb,g1),(t.nm.toList,g2),(Jcq,g3),(Lib.itoa t.ev,g4),(Jfm,g5),(Lib.itoa t.kp,g6),(Jbu,g7)]++Lib.itoa t.sh)++(g8++b16) from by simp[Jd0],e];have Y:Jfv x=[Jhb,t.nm.toList,Jcq,Lib.itoa t.ev,Jfm,Lib.itoa t.kp,Jbu,Lib.itoa t.sh]:=W;simp only[qa3] at hl;obtain⟨t1,t2⟩:=Jwm t y acc.length (by omega);rw[Jdz,Y,qay (by simp),qa0 t1,t2,Jhi nm z _ _ _ V,Jms nm r b16 _ _ (fun u hu=>hf u (by simp[hu])) (by simp;omega) l]
   simp
theorem Jwn(nm:List UInt8)(ts:List Ti)(b:List UInt8)(hn:Jae nm=true)(hf:∀t∈ts,t.Fine)(hl:ts.length<=5)(h:Exp (printL nm ts) b):Jmd 1 (Jar b)= .good nm ts:=by
 unfold printL at h;simp only[qas,qdq,qck] at h;obtain⟨b1,e1_,y⟩:=Exp.word _ Ji2.sep h;subst e1_;obtain⟨g1,b2,e2_,G1,w⟩:=Exp.space y;subst e2_;obtain⟨b3,e3_,v⟩:=Exp.word _ (Jgp hn).sep w;subst e3_;obtain⟨g2,b4,e4_,G2,u⟩:=Exp.line v;subst e4_
 obtain⟨x,z,e,r,q⟩:=Juw (b:=b4) G2 [(Jdb,g1)] nm (fun p hp=>by
  simp only[qbb,List.not_mem_nil,or_false] at hp;subst hp;exact⟨Ji2,G1⟩) (Jgp hn)
 rw[show Jdb++(g1++(nm++(g2++b4)))=(Jd0 [(Jdb,g1)]++nm)++(g2++b4) from by simp[Jd0],e];have s:Jfv x=[Jdb,nm]:=r;have o:Jfl [Jdb,nm]=true:=by unfold Jfl txt;simp
 rw[Jmd,s,qay (by simp),qa0 o];show Jdz nm _ _ _=_;rw[Jhi nm z _ _ _ q,Jms nm ts b4 _ [] hf (by simpa using hl) u];rfl
theorem J4w(nm:List UInt8)(ts:List Ti)(hn:Jae nm=true)(hf:∀t∈ts,t.Fine):∀c∈printL nm ts,c=10\/okB c=true:=by
 have s32:okB 32=true:=by decide
 intro c z;unfold printL at z;simp only[qbe,qbb,List.not_mem_nil,or_false,qcs] at z;rcases z with(z | z | z | z) | ⟨t,x,z⟩
 · exact .inr (Ji2.ok c z)
 · subst z;exact .inr s32
 · exact .inr ((Jgp hn).ok c z)
 · exact .inl z
 · have y:=hf t x
   unfold Jf8 at z;simp only[qbe,qbb,List.not_mem_nil,or_false,or_assoc] at z;rcases z with z | z | z | z | z | z | z | z | z | z | z | z | z | z | z | z
   · exact .inr (Jok.ok c z)
   · subst z;exact .inr s32
   · exact .inr ((Jgp y.nm).ok c z)
   · subst z;exact .inr s32
   · exact .inr (Jlf.ok c z)
   · subst z;exact .inr s32
   · exact .inr ((Jfe y.ev.1).ok c z)
   · subst z;exact .inr s32
   · exact .inr (Jol.ok c z)
   · subst z;exact .inr s32
   · exact .inr ((Jfe y.kp.1).ok c z)
   · subst z;exact .inr s32
   · exact .inr (Ji3.ok c z)
   · subst z;exact .inr s32
   · exact .inr ((Jfe y.sh.1).ok c z)
   · exact .inl z
theorem Jmt(nm:List UInt8)(ts:List Ti)(s:ByteArray)(hs:s.size<=4000)(hn:Jae nm=true)(hf:∀t∈ts,t.Fine)(hl:ts.length<=5)(h:Exp (printL nm ts) s.toList):Jdw s= .good nm ts:=by
 rw[Jyi,qay (by omega),Jkw _ _ (h.ok (J4w nm ts hn hf)),qay (by decide),Jwn nm ts _ hn hf hl h]
theorem check_fine{nm:List UInt8}{ts:List Ti}(h:checkR nm ts=(0,0)):Jae nm=true/\1<=ts.length/\ts.length<=5/\(∀t∈ts,t.Fine)/\∀i,i<ts.length ->Jcw ts i=false:=by
 unfold checkR at h;split at h
 · cases h
 · next hb=>
   simp only[Bool.or_eq_true,Bool.not_eq_true',qbc,not_or] at hb;cases hfd:(List.range ts.length).find? (Jcw ts) with
   | some i=>rw[hfd] at h;simp at h
   | none=>
     rw[List.find?_eq_none] at hfd;have y:∀i,i<ts.length ->Jcw ts i=false:=fun i x=>by simpa using hfd i (qce.2 x)
     refine⟨by simpa using hb.1,by omega,by omega,fun t ht=> ?_,y⟩;obtain⟨i,x,rfl⟩:=qb5 ht;have z:=y i x;unfold Jcw at z;rw[qah x] at z;simp only[qdk] at z;have w:=z.1.1;unfold Jdx at w;simp only[qdk,decide_eq_false_iff_not,Bool.not_eq_false'] at w;exact⟨w.1,by omega,by omega,by omega⟩
theorem print_len{nm:List UInt8}{ts:List Ti}(hn:Jae nm=true)(hf:∀t∈ts,t.Fine)(hl:ts.length<=5):(printL nm ts).length<=400:=by
 have one:∀t:Ti,t.Fine ->(Jf8 t).length<=65:=fun t h=>by
  have z:=h.nm;unfold Jae at z;simp only[qb1,qbc] at z;have e1:=Joi (u:=t.ev.toNat) (by have:=h.ev;omega);have e2:=Joi (u:=t.kp.toNat) (by have:=h.kp;omega);have e3:=Joi (u:=t.sh.toNat) (by have:=h.sh;omega);unfold Jf8;rw[Jc1 h.ev.1,Jc1 h.kp.1,Jc1 h.sh.1];simp[Jhb,Jcq,Jfm,Jbu];omega
 have all:∀l:List Ti,(∀t∈l,t.Fine) ->(l.flatMap Jf8).length<=l.length*65:=fun l=>by
  induction l with
  | nil=>intro _;simp
  | cons t r ih=>
    intro h;have y:=one t (h t (by simp));have x:=ih (fun u hu=>h u (by simp[hu]));rw[qau,qad,qa3];omega
 have z:=hn;unfold Jae at z;simp only[qb1,qbc] at z;have y:=all ts hf
 have e:(printL nm ts).length=8+nm.length+(ts.flatMap Jf8).length:=by
  unfold printL;rw[qad];simp only[Jdb,qad,qa3,qbo];omega
 omega
open Go.ChangeAt Go.ChangeShapes Go.Deep Go.WideShapes
def Jqn (nm:List UInt8) (ts:List Ti):List UInt8:=if (checkR nm ts).1=0 then printL nm ts else []
theorem Jhj{nm:List UInt8}{ts:List Ti}(h:(checkR nm ts).1=0):checkR nm ts=(0,0):=by
 unfold checkR at h ⊢;split
 · next hb=>rw[qa0 hb] at h;simp at h
 · next hb=>
   rw[qay hb] at h;cases hf:(List.range ts.length).find? (Jcw ts) with
   | none=>rfl
   | some i=>rw[hf] at h;simp at h
theorem Jqo(t:Ti):Lib.join [Jhb,t.nm.toList,Jcq,Lib.itoa t.ev,Jfm,Lib.itoa t.kp,Jbu,Lib.itoa t.sh] [32]++[10]=Jf8 t:=by
 simp[Lib.join,List.intercalate,Jf8]
theorem Jwo(nm:List UInt8)(ts:List Ti)(t:Ti):printL nm (ts++[t])=printL nm ts++Jf8 t:=by simp[printL]
theorem _root_.Go.Proofs.YtglmhddbhhcjdaaGreatDoor.Bx.belowB{w w':World}{g B:Nat}{T:TypeId}{cs:Array Value}(h:Bx w g T cs)(hb:Below B w w')(hg:g<B):Bx w' g T cs:=⟨(hb.block g hg).trans h.blk⟩
structure PrS (w0 w:World) (bp bt bb:Nat) (pv tv:Array Value) (l:List UInt8):Prop where
 bp:Bx w bp 101 pv
 bt:Bx w bt 167 tv
 bl:Bld w bb bb l
 bel:Below w0.heap.size w0 w
section
variable {w0 w w':World} {bp bt bb:Nat} {nm:ByteArray} {A:Option Addr} {n c:Nat} {x:Ti} {l:List UInt8} {pv:Array Value}
theorem PrS.below{tv:Array Value}(h:PrS w0 w bp bt bb pv tv l)(hb:Below w.heap.size w w'):PrS w0 w' bp bt bb pv tv l:=⟨h.bp.below hb,h.bt.below hb,h.bl.below hb,h.bel.trans (hb.mono h.bel.size)⟩
theorem PrS.full(h:PrS w0 w bp bt bb pv #[x.nm,(x.ev:Int),(x.kp:Int),(x.sh:Int)] l):PrS w0 w bp bt bb pv #[x.nm,(x.ev:Int),(x.kp:Int),(x.sh:Int)] l/\w.cell? ⟨bt,0,none⟩=some (.string x.nm)/\w.cell? ⟨bt,1,none⟩=some (.int .i64 x.ev)/\w.cell? ⟨bt,2,none⟩=some (.int .i64 x.kp)/\w.cell? ⟨bt,3,none⟩=some (.int .i64 x.sh):=
 ⟨h,h.bt.at_ 0 rfl,h.bt.at_ 1 rfl,h.bt.at_ 2 rfl,h.bt.at_ 3 rfl⟩
end
theorem Jzt(w:World)(a b c d e f g h:ByteArray):∀ (j:Nat) x,[a,b,c,d,e,f,g,h][j]? =some x ->(w.alloc (.cells #[a,b,c,d,e,f,g,h] 9)).cell? ⟨w.heap.size,0+j,none⟩=some (.string x):=by
 intro j x hj;have z:=qb4 (w.alloc (.cells #[a,b,c,d,e,f,g,h] 9)) w.heap.size j _ _ (0,0) (qci w _);rw[qa7,z]
 match j,hj with
 | 0,hj=>simp at hj;subst hj;rfl
 | 1,hj=>simp at hj;subst hj;rfl
 | 2,hj=>simp at hj;subst hj;rfl
 | 3,hj=>simp at hj;subst hj;rfl
 | 4,hj=>simp at hj;subst hj;rfl
 | 5,hj=>simp at hj;subst hj;rfl
 | 6,hj=>simp at hj;subst hj;rfl
 | 7,hj=>simp at hj;subst hj;rfl
def Jon (t:Ti):List UInt8:=Lib.join [Jhb,t.nm.toList,Jcq,Lib.itoa t.ev,Jfm,Lib.itoa t.kp,Jbu,Lib.itoa t.sh] [32]
theorem Jlg{t:Ti}(h:t.Fine):(Jon t).length<=400:=by
 have z:=print_len (nm:=t.nm.toList) (ts:=[t]) h.nm (by simpa using h) (by simp)
 have e2:(Jf8 t).length=(Jon t).length+1:=by
  unfold Jon;rw[<- Jqo t,qad,List.length_singleton]
 have e3:(Jf8 t).length<=(printL t.nm.toList [t]).length:=by
  unfold printL;simp only[qau,qbt,qbp,qad];omega
 omega
theorem Jzu(t:Ti)(h:t.Fine)(w:World):
  Cs 387 #[.slice (some ⟨w.heap.size,0,none⟩) 8 8,.string ⟨#[32]⟩]
   (w.alloc (.cells #[.string ⟨#[116,105,101,114]⟩,t.nm,.string ⟨#[101,118,101,114,121]⟩,.string ⟨(Lib.itoa t.ev).toArray⟩,.string ⟨#[107,101,101,112]⟩,.string ⟨(Lib.itoa t.kp).toArray⟩,.string ⟨#[115,104,97,114,100,115]⟩,.string ⟨(Lib.itoa t.sh).toArray⟩] 9))
   fun e w'=>e= .returned (.string ⟨(Jon t).toArray⟩)/\Below (w.heap.size+1) (w.alloc (.cells #[.string ⟨#[116,105,101,114]⟩,t.nm,.string ⟨#[101,118,101,114,121]⟩,.string ⟨(Lib.itoa t.ev).toArray⟩,.string ⟨#[107,101,101,112]⟩,.string ⟨(Lib.itoa t.kp).toArray⟩,.string ⟨#[115,104,97,114,100,115]⟩,.string ⟨(Lib.itoa t.sh).toArray⟩] 9)) w':=by
 have z:Lib.join (List.map (fun x:ByteArray=>x.data.toList) [⟨#[116,105,101,114]⟩,t.nm,⟨#[101,118,101,114,121]⟩,⟨(Lib.itoa t.ev).toArray⟩,⟨#[107,101,101,112]⟩,⟨(Lib.itoa t.kp).toArray⟩,⟨#[115,104,97,114,100,115]⟩,⟨(Lib.itoa t.sh).toArray⟩]) (⟨#[32]⟩:ByteArray).data.toList=Jon t:=by
  unfold Jon;rw[qaw];rfl
 have y:=Jlg h;have X:=Tryz.strings_Join w.heap.size 0 8 [⟨#[116,105,101,114]⟩,t.nm,⟨#[101,118,101,114,121]⟩,⟨(Lib.itoa t.ev).toArray⟩,⟨#[107,101,101,112]⟩,⟨(Lib.itoa t.kp).toArray⟩,⟨#[115,104,97,114,100,115]⟩,⟨(Lib.itoa t.sh).toArray⟩] ⟨#[32]⟩ _ (Jzt w _ _ _ _ _ _ _ _) (by simp) (by simp) (by simp) (by rw[z];omega);rw[z,qdo] at X;exact X
theorem Jzv(nm:ByteArray)(A:Option Addr)(n c:Nat)(ts:List Ti)(w:World)(hnm:nm.size<=maxLen)(h:Tis w A n ts)(hc:n<=c)(htab:Lib.TabIs Tryz.prog w "internal/strconv.uint64pow10" .u64 Lib.pow10Tab):
  Cs 328 #[polV nm A n c] w (RB w (.tuple #[.string ⟨(Jqn nm.toList ts).toArray⟩,((checkR nm.toList ts).1:Int)])):=by
 have b0:=Bx.new w 101 #[nm,.slice A n c];have u:Below w.heap.size w (w.alloc (.cells #[nm,.slice A n c] 101)):=(qaa _ w).alloc (qab _) _;have q0:=b0.at_ 0 rfl;have q1:=b0.at_ 1 rfl;have O:=zI (check_any nm A n c ts _ hnm (h.below u) hc);by_cases V:(checkR nm.toList ts).1=0
 rotate_left
 · have B:=zI (show Jqn nm.toList ts=[] from qay V)
   have hJ:((checkR nm.toList ts).1 !=0)=true:=bne_iff_ne.2 V;rw[B.out];go_enter Tryz.func328,Tryz.ntmps328
   go_wp2_with (first
    | (go_at_call 95;refine O.out.mono ?_;rintro e w1 ⟨rfl,z⟩))
   go_ret2;exact⟨rfl,u.trans (z.mono u.size)⟩
 have a:=Jhj V;obtain⟨k,Ha,Hb,y,_⟩:=check_fine a;have N:=zI y;have M:=zI (fun j=>print_len (ts:=ts.take j) k (fun t ht=>y t (qbi ht)) (by rw[qao];omega));have Hc:=h.len;have U:=zI h;have T:=zI (Lib.tabBelow_of_tabIs htab)
 have Hd:nm.size<=15:=by
  unfold Jae at k;simp only[qb1,qbc] at k;rw[<- Jac];exact k.1.2
 rw[a] at O ⊢;rw[show Jqn nm.toList ts=printL nm.toList ts from qa0 V];clear V a k y h htab;go_enter Tryz.func328,Tryz.ntmps328
 go_upto_region 5 with(first
  | (go_at_call 95;refine O.out.mono ?_;rintro e w1 ⟨rfl,z⟩))
 have BL:=Bld.fresh w1;have b1:=(b0.below z).alloc (.cells #[.pointer none,()] 243);have S:Below w.heap.size w (w1.alloc (.cells #[.pointer none,()] 243)):=(u.trans (z.mono u.size)).alloc (by have:=z.size;simp at this;omega) _;have s:w.heap.size<w1.heap.size:=by have:=z.size;simp at this;omega
 have q:w1.heap.size<=(w1.alloc (.cells #[.pointer none,()] 243)).heap.size:=by simp
 have p0:=b1.at_ 0 rfl;obtain⟨bb,g⟩:=exE w1.heap.size;rw[<- g] at BL s q ⊢;generalize w1.alloc (.cells #[.pointer none,()] 243)=w2 at*;clear z g b0 u q0 q1 O
 go_wp2_with (first
  | (go_at_call 152;refine(Jmi bb bb [] _ _ BL (by rw[ByteArray.size_append,ByteArray.size_append];show 0+(7+nm.size+1)<=1000000;omega) q).mono ?_;rintro e w3 ⟨rfl,BL3,p⟩
     have b3:=b1.belowB p s;have q1:=b3.at_ 1 rfl))
 have f:Below w.heap.size w w3:=S.trans (p.mono (qcw s));have R:bb<=w3.heap.size:=qax q p.size
 have BL0:Bld w3 bb bb (printL nm.toList (ts.take 0)):=by
  have e:([]:List UInt8)++((⟨#[112,111,108,105,99,121,32]⟩:ByteArray)++nm++⟨#[10]⟩).toList=printL nm.toList (ts.take 0):=by
   rw[qaw,qaw];simp[printL,Jdb]
  rw[<- e];exact BL3
 clear BL BL3 S q p0 p b1;go_loopw [8,9,26] (fun _ _ i wr=>∃j:Nat,j<=n/\i= .int .i64 j/\Bld wr bb bb (printL nm.toList (ts.take j))/\Bx wr w.heap.size 101 #[nm,.slice A n c]/\Below w.heap.size w wr/\bb<=wr.heap.size) (fun _ _ i _=>n - (intOf i).toNat)
 case atStart=>exact⟨0,qaq _,rfl,BL0,b3,f,R⟩
 case round=>
  clear BL0 b3 f R q1;obtain⟨j,hj,rfl,BL,bp,r,hB⟩:=hrel;have L:=M.out j;by_cases C:j<n
  · have K:j<ts.length:=by omega
    have Z:=U.out.ok _ (qan K);have Y:=zI (N.out _ (qan K));have J:=zI (show printL nm.toList (ts.take (j+1))=printL nm.toList (ts.take j)++Jf8 (ts[j]'K) from by rw[qam K,Jwo]);obtain⟨b,off,rfl,I,X⟩:=(U.out.below r).get K;obtain⟨r0,r1,r2,r3⟩:=X;generalize (ts[j]'K)=x at*;have o:=(qaa wr.heap.size wr).alloc (qab _) (.cells #[x.nm,(x.ev:Int),(x.kp:Int),(x.sh:Int)] 167);have S0:PrS w _ w.heap.size wr.heap.size bb _ #[x.nm,(x.ev:Int),(x.kp:Int),(x.sh:Int)] _:=⟨bp.below o,Bx.new wr 167 _,BL.below o,r.trans (o.mono r.size)⟩;have g0:(0:Int)<=(j:Int):=(by omega);have g1:(j:Int)<(n:Int):=(by omega);have S0D:=S0.below (qaa _ _).drew;have He:bb<=(wr.alloc (.cells #[x.nm,(x.ev:Int),(x.kp:Int),(x.sh:Int)] 167)).heap.size:=by simp;omega
    obtain⟨e1,e2⟩:=Z.ev;obtain⟨k1,k2⟩:=Z.kp;obtain⟨s1,s2⟩:=Z.sh;clear BL bp o I;go_upto_region 9 with fail
    generalize wr.alloc (.cells #[x.nm,(x.ev:Int),(x.kp:Int),(x.sh:Int)] 167)=w4 at*;generalize wr.heap.size=bt at*;clear r0 r1 r2 r3 r;generalize printL nm.toList (ts.take j)=l at*
    go_region_held3 (fun w'=>PrS w w' w.heap.size bt bb #[(nm:ByteArray),.slice (some ⟨b,off,none⟩) n c] #[x.nm,(x.ev:Int),(x.kp:Int),(x.sh:Int)] l/\w'.cell? ⟨bt,0,none⟩=some (.string x.nm)/\w'.cell? ⟨bt,1,none⟩=some (.int .i64 x.ev)/\w'.cell? ⟨bt,2,none⟩=some (.int .i64 x.kp)/\w'.cell? ⟨bt,3,none⟩=some (.int .i64 x.sh))
     (first
       | assumption
       | exact S0D.full
       | (go_split_ands;exact PrS.full (by assumption))
       | (go_split_ands;exact PrS.full (PrS.below (by assumption) H))
       | (go_split_ands;exact PrS.full (PrS.below (by assumption) ((qaa _ _).alloc (qab _) _))))
     (first
       | (go_at_call 386;go_split_ands;refine(Jv1 _ _ (by assumption) (by assumption) (T.out _ (PrS.bel (by assumption)))).mono ?_;rintro e wq ⟨rfl,H⟩))
    all_goals
     go_split_ands;have S1:PrS w (wq.alloc (.cells #[.string ⟨#[116,105,101,114]⟩,x.nm,.string ⟨#[101,118,101,114,121]⟩,.string ⟨(Lib.itoa x.ev).toArray⟩,.string ⟨#[107,101,101,112]⟩,.string ⟨(Lib.itoa x.kp).toArray⟩,.string ⟨#[115,104,97,114,100,115]⟩,.string ⟨(Lib.itoa x.sh).toArray⟩] 9)) w.heap.size bt bb #[nm,.slice (some ⟨b,off,none⟩) n c] #[x.nm,(x.ev:Int),(x.kp:Int),(x.sh:Int)] l:=(by assumption);have Hf:bb<=wq.heap.size:=by have:=(S1.bl);obtain⟨_,v,k,_⟩ | ⟨_,v,k,_⟩:=this<;>(have:=qcb k;simp at this;omega)
     have HJ:=zI (Jzu x Y.out wq);have G:=zI S1;have F:=zI (Jlg Y.out);have Hg:=Jlg Y.out;clear S0 S0D S1
     go_wp2_with (first
      | (go_at_call 387;refine HJ.out.mono ?_;rintro e w5 ⟨rfl,m⟩
         have S5:=zI (G.out.below (by simpa using m));have d:bb<=w5.heap.size:=by have:=m.size;simp at this;omega)
      | (go_at_call 152;refine(Jmi bb bb l _ _ S5.out.bl (by rw[ByteArray.size_append];have:=F.out;show _+((Jon x).toArray.size+1)<=1000000;simp;omega) d).mono ?_;rintro e w6 ⟨rfl,BL6,W⟩
         have bp6:=S5.out.bp.belowB W s;have P:=S5.out.bel.trans (W.mono (qcw s));have E:=qax d W.size))
     go_roundw
     case rel=>
      refine⟨j+1,by omega,by go_num,?_,bp6,P,E⟩;rw[J.out]
      have e:((⟨(Jon x).toArray⟩:ByteArray)++⟨#[10]⟩).toList=Jf8 x:=by
       rw[<- Jqo x,qaw];simp[Jon]
      rw[e] at BL6;exact BL6
     case measure=>simp[intOf];omega
  · have D:j=n:=by omega
    subst D;have hd:decide ((j:Int)<(j:Int))=false:=qae (by omega);rw[qap (by omega)] at BL L
    go_wp2_with (first
     | (go_at_call 154;refine(J7d bb bb _ _ BL hB).mono ?_;rintro e w5 ⟨rfl,m⟩))
    go_ret2;exact⟨rfl,r.trans (m.mono (qcw s))⟩
