/- Laws that the walk of the last text wants. -/
import Derived.Test.YtglmhddbhhcjdaaGreatDoorC43
set_option maxRecDepth 100000
set_option linter.unusedSimpArgs false
set_option maxHeartbeats 4000000
namespace Go.Proofs.YtglmhddbhhcjdaaGreatDoor
open Go.RowKit
def Kab (s:ByteArray) (a b:Int):Prop:=Jae s.toList=true/\0<=a/\a<=b
open Classical in
noncomputable def Tv.askV (t:Tv) (s:ByteArray) (a b:Int):Int×Int×List Rc:=
 if Kab s a b then (t.r.cover a,0,(t.tab (t.r.cover a).toNat).filter fun r=> !rngP s a b r) else (0,1,[])
theorem Jrr(r:Rch)(a:Int)(h:1<=r.ts.length):∃i:Nat,r.cover a=(i:Int)/\i<r.ts.length:=by
 unfold Rch.cover;cases hf:(List.range r.ts.length).find? (fun i=>decide (r.from_ i<=a)) with
 | none=>exact⟨r.ts.length - 1,by show(r.ts.length:Int) - 1=_;omega,by omega⟩
 | some i=>
   have:=List.mem_of_find?_eq_some hf;exact⟨i,rfl,qce.1 this⟩
abbrev ansV (k:Int) (A:Option Addr) (n c:Nat) (e:Int):Value:= .tuple #[.agg #[(k:Int),.slice A n c],(e:Int)]
def Joz (w:World) (x:Int×Int×List Rc) (e:Ending) (w':World):Prop:=
 ∃A c,e= .returned (ansV x.1 A x.2.2.length c x.2.1)/\w'.ownsRow w.heap.size 142 7 (.slice A x.2.2.length c) x.2.2.length (x.2.2.flatMap Rc.cells)/\Below w.heap.size w w'
theorem J86{F:Nat ->Prop}{g:Nat}{t:Tv}(s:ByteArray)(a b:Int)(w:World)(h:Jag w F g t)(h1:1<=t.tabs.length)(hs:s.size<=maxLen)(hfew:∀i,i<t.tabs.length ->(t.tab i).length<=10000):
  Cs 129 #[g,s,(a:Int),(b:Int)] w (Joz w (t.askV s a b)):=by
 obtain⟨w1,c⟩:=exE (w.alloc (.cells #[(0:Int),()] 45));have M:Below w.heap.size w w1:=by rw[c];exact(qaa _ _).alloc (qab _) _
 have Z:Hid (Bx w1 w.heap.size 45 #[(0:Int),()]):=zI (by rw[c];exact Bx.new _ _ _);have Y:=zI c;have m:=zI M;have l:=h.below M;have V:=zI (Jgo w1 l h1);have o:=zI (fun (W:World) (g:Nat) (hg:W.cell? ⟨g,0,none⟩=some (.string s))=>Jbj (some ⟨g,0,none⟩) 1 1 [s] W (by decide) rfl (by simpa using hs) (fun _=>⟨g,0,rfl,one_cell hg⟩));rw[show([s].all fun s=>Jae s.toList)=Jae s.toList from by simp] at o;clear c M h;by_cases j:Kab s a b
 · rw[show t.askV s a b=(t.r.cover a,0,(t.tab (t.r.cover a).toNat).filter fun r=> !rngP s a b r) from qa0 j]
   obtain⟨i,K,U⟩:=Jrr t.r a (by rw[l.len];exact h1);rw[l.len] at U;have Hi:=zI K;rw[K,qc3];obtain⟨d,D,T⟩:=j;rw[d] at o;have d1:decide (a<0)=false:=qae (by omega);have d2:decide (b<a)=false:=qae (by omega);have HT:=zI l;have Hj:=zI (hfew i U);obtain⟨L,hL⟩:=exE ((t.tab i).filter fun r=> !rngP s a b r);rw[<- hL];have Hk:=zI hL;obtain⟨N,hN⟩:=exE t.tabs.length;have HN:=zI hN;rw[<- hN] at U h1;clear l K d D T hL hN hfew;go_enter Tryz.func129,Tryz.ntmps129;go_upto_region 1 with fail
   rw[<- Y.out];go_wp2_with fail
   refine V.out.mono ?_;rintro e w0 ⟨rfl,n⟩;subst n;go_wp2_with fail
   refine(o.out _ _ (by simp[go_sem])).mono ?_;rintro e w2 ⟨rfl,n⟩;have y:Below w1.heap.size w1 w2:=by rw[<- n];exact(qaa _ _).alloc (qab _) _
   have z:=zI (Z.out.below y);have k:=zI (m.out.trans (y.mono m.out.size));have S:=HT.out.below y;clear n y;obtain⟨A2,c2,B2,m2,d3,L2,cl3,_,_,C,J,_,Hl,_⟩:=S.tabs;have y0:=C.at_ 0 rfl;have y1:=C.at_ 1 rfl;have y2:=C.at_ 2 rfl;have y3:=C.at_ 3 rfl;rw[<- HN.out] at y2 J;have A:=zI (J03 A2 N c2 B2 m2 d3 t.r a w2 J (by have:=S.few;rw[<- HN.out] at this;omega));rw[Hi.out] at A;have Hm:=zI S;clear S C J Hl;go_wp2_with fail
   refine A.out.mono ?_;rintro e w3 ⟨rfl,R⟩;have hJ:=Hm.out.below R;have Ha:=zI (z.out.below R);have I:=zI (k.out.trans (R.mono k.out.size));obtain⟨b0,off0,cl0,ga,gm,c4,Ho,Hb,O,_,_⟩:=hJ.focus i (by rw[<- HN.out];exact U);rw[<- HN.out] at c4;have Hc:=zI (Jw4 s a b O (by have:=Hj.out;omega));rw[<- Hk.out] at Hc;have i0:(0:Int)<=(i:Int):=by omega
   have i1:(i:Int)<(N:Int):=by omega
   clear hJ R O y0 y1 y2 y3;go_wp2_with fail
   refine Hc.out.mono ?_;rintro e w4 ⟨v,rfl,P,H⟩;have Hd:=zI (Jgj P I.out.size);obtain⟨A4,c4',rfl,_⟩:=Jao P;have He:=Ha.out.below H;have f:=zI He;have Hn:=zI (I.out.trans (H.mono I.out.size))
   have Hf:=zI (show ∀x,(Value.slice A4 L.length c4').ownBlock=some x -> ¬ (x=w.heap.size) from fun x hx e=>by
    have:=(P.lt x hx).1;have h5:=Ha.out.lt;omega)
   clear P H He c4 Hb;have r0:=f.out.at_ 0 rfl;have r1:=f.out.at_ 1 rfl;have f0:=f.out.free 0;have f1:=f.out.free 1;have G:=f.out.lt;obtain⟨ln,E⟩:=exE L.length;have Hg:=zI E;rw[<- E] at Hd Hf ⊢;clear E;go_wp2_with fail
   have u:=Jaw f.out [(i:Int),.slice A4 ln c4'] rfl;have p:=Jaj (B:=w.heap.size) [(i:Int),.slice A4 ln c4'] (qab _) w4 0;have Hh:=Jcb (g:=w.heap.size) [(i:Int),.slice A4 ln c4'] w4 0;obtain⟨w9,q⟩:=exE (putC w4 w.heap.size 0 [(i:Int),.slice A4 ln c4']);rw[<- q] at u p Hh;simp only[putC,qa7] at q;rw[<- q];have q0:=u.at_ 0 rfl;have q1:=u.at_ 1 rfl;exact qa6 (v:=ansV (i:Int) A4 ln c4' 0) (by simp[results,Tryz.results129,go_sem,q0,q1]) rfl ⟨A4,c4',by rw[Hg.out],by have:=Jax Hd.out Hh Hf.out;rw[Hg.out] at this;exact this,Hn.out.trans p⟩
 rw[show t.askV s a b=(0,1,[]) from qay j];by_cases d:Jae s.toList=true
 · by_cases D:0<=a
   · have T:b<a:=Int.not_le.1 fun e=>j ⟨d,D,e⟩
     have d1:decide (a<0)=false:=qae (by omega);have d2:decide (b<a)=true:=qaj T;rw[d] at o;clear l j d D T h1 hfew;go_enter Tryz.func129,Tryz.ntmps129;go_upto_region 1 with fail
     rw[<- Y.out];go_wp2_with fail
     refine V.out.mono ?_;rintro e w0 ⟨rfl,n⟩;subst n;go_wp2_with fail
     refine(o.out _ _ (by simp[go_sem])).mono ?_;rintro e w2 ⟨rfl,n⟩;have y:Below w1.heap.size w1 w2:=by rw[<- n];exact(qaa _ _).alloc (qab _) _
     have z:=zI (Z.out.below y);have k:=zI (m.out.trans (y.mono m.out.size));clear n y;have r0:=z.out.at_ 0 rfl;have r1:=z.out.at_ 1 rfl;have f0:=z.out.free 0;have f1:=z.out.free 1;have G:=z.out.lt;go_wp2_with fail
     have u:=Jaw z.out [(0:Int),()] rfl;have p:=Jaj (B:=w.heap.size) [(0:Int),()] (qab _) w2 0;obtain⟨w9,q⟩:=exE (putC w2 w.heap.size 0 [(0:Int),()]);rw[<- q] at u p;simp only[putC,qa7] at q;rw[<- q];have q0:=u.at_ 0 rfl;have q1:=u.at_ 1 rfl;exact qa6 (v:=ansV 0 none 0 0 1) (by simp[results,Tryz.results129,go_sem,q0,q1]) rfl ⟨none,0,rfl,qaz _ _ _ _,k.out.trans p⟩
   · have d1:decide (a<0)=true:=qaj (by omega)
     rw[d] at o;clear l j d D h1 hfew;go_enter Tryz.func129,Tryz.ntmps129;go_upto_region 1 with fail
     rw[<- Y.out];go_wp2_with fail
     refine V.out.mono ?_;rintro e w0 ⟨rfl,n⟩;subst n;go_wp2_with fail
     refine(o.out _ _ (by simp[go_sem])).mono ?_;rintro e w2 ⟨rfl,n⟩;have y:Below w1.heap.size w1 w2:=by rw[<- n];exact(qaa _ _).alloc (qab _) _
     have z:=zI (Z.out.below y);have k:=zI (m.out.trans (y.mono m.out.size));clear n y;have r0:=z.out.at_ 0 rfl;have r1:=z.out.at_ 1 rfl;have f0:=z.out.free 0;have f1:=z.out.free 1;have G:=z.out.lt;go_wp2_with fail
     have u:=Jaw z.out [(0:Int),()] rfl;have p:=Jaj (B:=w.heap.size) [(0:Int),()] (qab _) w2 0;obtain⟨w9,q⟩:=exE (putC w2 w.heap.size 0 [(0:Int),()]);rw[<- q] at u p;simp only[putC,qa7] at q;rw[<- q];have q0:=u.at_ 0 rfl;have q1:=u.at_ 1 rfl;exact qa6 (v:=ansV 0 none 0 0 1) (by simp[results,Tryz.results129,go_sem,q0,q1]) rfl ⟨none,0,rfl,qaz _ _ _ _,k.out.trans p⟩
 · rw[show Jae s.toList=false from by cases e:Jae s.toList;rfl;exact absurd e d] at o
   clear l j d h1 hfew;go_enter Tryz.func129,Tryz.ntmps129;go_upto_region 1 with fail
   rw[<- Y.out];go_wp2_with fail
   refine V.out.mono ?_;rintro e w0 ⟨rfl,n⟩;subst n;go_wp2_with fail
   refine(o.out _ _ (by simp[go_sem])).mono ?_;rintro e w2 ⟨rfl,n⟩;have y:Below w1.heap.size w1 w2:=by rw[<- n];exact(qaa _ _).alloc (qab _) _
   have z:=zI (Z.out.below y);have k:=zI (m.out.trans (y.mono m.out.size));clear n y;have r0:=z.out.at_ 0 rfl;have r1:=z.out.at_ 1 rfl;have f0:=z.out.free 0;have f1:=z.out.free 1;have G:=z.out.lt;go_wp2_with fail
   have u:=Jaw z.out [(0:Int),()] rfl;have p:=Jaj (B:=w.heap.size) [(0:Int),()] (qab _) w2 0;obtain⟨w9,q⟩:=exE (putC w2 w.heap.size 0 [(0:Int),()]);rw[<- q] at u p;simp only[putC,qa7] at q;rw[<- q];have q0:=u.at_ 0 rfl;have q1:=u.at_ 1 rfl;exact qa6 (v:=ansV 0 none 0 0 1) (by simp[results,Tryz.results129,go_sem,q0,q1]) rfl ⟨none,0,rfl,qaz _ _ _ _,k.out.trans p⟩
theorem Jvq{F:Nat ->Prop}{g room:Nat}{t:Tv}(s:ByteArray)(a b:Int)(w:World)(h:StAt w F g room t)(h1:1<=t.tabs.length)(hs:s.size<=maxLen)(hfew:∀i,i<t.tabs.length ->(t.tab i).length<=10000):
  Cs 67 #[g,s,(a:Int),(b:Int)] w (Joz w (t.askV s a b)):=by
 obtain⟨w1,y⟩:=exE (w.alloc (.cells #[(0:Int),()] 45));have u:Below w.heap.size w w1:=by rw[y];exact(qaa _ _).alloc (qab _) _
 have l:Hid (Bx w1 w.heap.size 45 #[(0:Int),()]):=zI (by rw[y];exact Bx.new _ _ _);have V:=zI y;have r:=zI u;have U:=zI (Jev w1 (h.below u));obtain⟨gt,FT,m,S,_,_⟩:=(h.below u).ex;have j:=zI (J86 s a b w1 S h1 hs hfew);have s1:=m.at_ 1 (v:= gt) rfl;clear m S;obtain⟨X,m⟩:=exE (t.askV s a b);rw[<- m] at j;rw[<- m];obtain⟨k,er,L⟩:=X;clear y u h h1 hs hfew m;go_enter Tryz.func67,Tryz.ntmps67;go_upto_region 1 with fail
 rw[<- V.out];go_wp2_with fail
 refine U.out.mono ?_;rintro e w0 ⟨rfl,P⟩;subst P;go_wp2_with fail
 refine j.out.mono ?_;rintro e w2 ⟨A,c,rfl,W,q⟩;dsimp only at W ⊢;have R:=zI (Jgj W r.out.size);have z:=zI (l.out.below q);have T:=zI (r.out.trans (q.mono r.out.size))
 have f:=zI (show ∀x,(Value.slice A L.length c).ownBlock=some x -> ¬ (x=w.heap.size) from fun x hx e=>by
  have:=(W.lt x hx).1;have N:=l.out.lt;omega)
 clear W q;obtain⟨ln,p⟩:=exE L.length;have d:=zI p;rw[<- p] at R f ⊢;clear p;have r0:=z.out.at_ 0 rfl;have r1:=z.out.at_ 1 rfl;have f0:=z.out.free 0;have f1:=z.out.free 1;have O:=z.out.lt;go_wp2_with fail
 have o:=Jaw z.out [(k:Int),.slice A ln c] rfl;have Z:=Jaj (B:=w.heap.size) [(k:Int),.slice A ln c] (qab _) w2 0;have Y:=Jcb (g:=w.heap.size) [(k:Int),.slice A ln c] w2 0;obtain⟨w9,n⟩:=exE (putC w2 w.heap.size 0 [(k:Int),.slice A ln c]);rw[<- n] at o Z Y;simp only[putC,qa7] at n;rw[<- n];have q0:=o.at_ 0 rfl;have q1:=o.at_ 1 rfl;exact qa6 (v:=ansV k A ln c er) (by simp[results,Tryz.results67,go_sem,q0,q1]) rfl ⟨A,c,by rw[d.out],by have:=Jax R.out Y f.out;rw[d.out] at this;exact this,T.out.trans Z⟩
section
variable {F:Nat ->Prop} {ge gd N C B D R gen q:Nat} {ps:List Pm} {f:Int ->Option ByteArray} {t t0:Tv} {rs:List (List UInt8)}
theorem J87(s:ByteArray)(a b:Int)(w:World)(h:Jat w F ge gd N C B D R gen q ps f t rs t0)(hs:s.size<=maxLen):
  Cs 66 #[ge,s,(a:Int),(b:Int)] w (Joz w (t.askV s a b)):=by
 have M:=h.good.n.1;have u:=h.good.few;obtain⟨w1,y⟩:=exE (w.alloc (.cells #[(0:Int),()] 45));have r:Below w.heap.size w w1:=by rw[y];exact(qaa _ _).alloc (qab _) _
 have i:Hid (Bx w1 w.heap.size 45 #[(0:Int),()]):=zI (by rw[y];exact Bx.new _ _ _);have T:=zI y;have p:=zI r;obtain⟨FB,FD,FT,gs,gl,mp,bk,id,S,_⟩:=(h.below r).ex;have x14:=S.bx.at_ 14 (v:= gs) rfl;have d:=zI (Jvq s a b w1 S.st M hs u);clear S;obtain⟨X,P⟩:=exE (t.askV s a b);rw[<- P] at d;rw[<- P];obtain⟨k,er,L⟩:=X;clear y r h M hs u P;go_enter Tryz.func66,Tryz.ntmps66;go_upto_region 1 with fail
 rw[<- T.out];go_wp2_with fail
 refine d.out.mono ?_;rintro e w2 ⟨A,c,rfl,U,o⟩;dsimp only at U ⊢;have K:=zI (Jgj U p.out.size);have z:=zI (i.out.below o);have O:=zI (p.out.trans (o.mono p.out.size))
 have Z:=zI (show ∀x,(Value.slice A L.length c).ownBlock=some x -> ¬ (x=w.heap.size) from fun x hx e=>by
  have:=(U.lt x hx).1;have I:=i.out.lt;omega)
 clear U o;obtain⟨ln,m⟩:=exE L.length;have Y:=zI m;rw[<- m] at K Z ⊢;clear m;have r0:=z.out.at_ 0 rfl;have r1:=z.out.at_ 1 rfl;have f0:=z.out.free 0;have f1:=z.out.free 1;have J:=z.out.lt;go_wp2_with fail
 have l:=Jaw z.out [(k:Int),.slice A ln c] rfl;have W:=Jaj (B:=w.heap.size) [(k:Int),.slice A ln c] (qab _) w2 0;have V:=Jcb (g:=w.heap.size) [(k:Int),.slice A ln c] w2 0;obtain⟨w9,j⟩:=exE (putC w2 w.heap.size 0 [(k:Int),.slice A ln c]);rw[<- j] at l W V;simp only[putC,qa7] at j;rw[<- j];have q0:=l.at_ 0 rfl;have q1:=l.at_ 1 rfl;exact qa6 (v:=ansV k A ln c er) (by simp[results,Tryz.results66,go_sem,q0,q1]) rfl ⟨A,c,by rw[Y.out],by have:=Jax K.out V Z.out;rw[Y.out] at this;exact this,O.out.trans W⟩
end
theorem J88{t:Tv}(hg:t.Good)(s:ByteArray)(a b:Int):(t.askV s a b).2.2.length<=10000/\∀r∈(t.askV s a b).2.2,r.Fine:=by
 unfold Tv.askV;split
 · obtain⟨i,y,z⟩:=Jrr t.r a (by rw[<- hg.len];exact hg.n.1)
   rw[y,qc3];rw[<- hg.len] at z;exact⟨qax (qdh _ _) (hg.few i z),fun r hr=>(hg.fine i z r (qbf.1 hr).1).1⟩
 · exact⟨qaq _,fun r hr=>by cases hr⟩
theorem J89{F FS:Nat ->Prop}{ge gd N C B D R gen q gs room n c m d:Nat}{ps:List Pm}{f:Int ->Option ByteArray}{t t0 t2:Tv}{rs:List (List UInt8)}{A T:Option Addr}{ns:List ByteArray}{ts:List Int}(w:World)(h:Jat w F ge gd N C B D R gen q ps f t rs t0)(hS:StAt w FS gs room t2)(hg2:t2.Good)(hn:Strs w A n ns)(ht:Ints w .i64 T m ts)(heq:∀s a b,t.askV s a b=t2.askV s a b):
  Cs 22 #[ge,gs,.slice A n c,.slice T m d] w fun e w'=>e= .returned true/\Below w.heap.size w w':=by
 have HE:=zI h;have HS:=zI hS;have HN:=zI hn;have HT:=zI ht;have Kd:=zI hg2;have Hj:=zI (fun s a b=>J88 hg2 s a b);have Hk:=zI (fun s a b W (hW:Below w.heap.size w W) (hs:s.size<=maxLen)=>show Cs 66 #[ge,(s:ByteArray),(a:Int),(b:Int)] W (Joz W (t2.askV s a b)) from by rw[<- heq];exact J87 s a b W (h.below hW) hs);have Hl:=zI (fun s a b W (hW:Below w.heap.size w W) (hs:s.size<=maxLen)=>Jvq s a b W (hS.below hW) hg2.n.1 hs hg2.few);have hJ:=hn.len;have Ha:=ht.len;have Hm:=hn.n_le;have Hn:=ht.n_le;unfold maxLen at Hm Hn;have Ho:=zI hJ;have Hb:=zI Ha;clear h hS hn ht hg2 heq hJ Ha;go_enter Tryz.func22,Tryz.ntmps22;go_wp2_with fail
 go_loopw [21] (fun j wr=>∃k:Nat,k<=n/\j= .int .i64 (k:Int)/\Below w.heap.size w wr) (fun j _=>n - (intOf j).toNat)
 case atStart=>exact⟨0,qaq _,rfl,qaa _ _⟩
 case round=>
  obtain⟨k,hk,rfl,hb⟩:=hrel;by_cases Hp:k<n
  · have K:k<ns.length:=by rw[Ho.out];exact Hp
    obtain⟨b1,o1,Hq,_,s1⟩:=(HN.out.below hb).get K;have Hc:=zI (HN.out.size _ (qan K));generalize ns[k]'K=S at*;have HB:=zI hb;subst Hq;clear hb;go_wp2_with fail
    clear s1;go_loopw [27] (fun j wq=>∃i:Nat,i<=m/\j= .int .i64 (i:Int)/\Below w.heap.size w wq) (fun j _=>m - (intOf j).toNat)
    case atStart=>exact⟨0,qaq _,rfl,HB.out⟩
    case round=>
     obtain⟨i,hi,rfl,x⟩:=hrel;by_cases Hr:i<m
     · have I:i<ts.length:=by rw[Hb.out];exact Hr
       obtain⟨b2,o2,Hs,_,s2⟩:=(HT.out.below x).get I;generalize ts[i]'I=ta at*;have g:=zI x;subst Hs;clear x;go_wp2_with fail
       clear s2;go_loopw [33] (fun j wx=>∃p:Nat,p<=m/\j= .int .i64 (p:Int)/\Below w.heap.size w wx) (fun j _=>m - (intOf j).toNat)
       case atStart=>exact⟨0,qaq _,rfl,g.out⟩
       case round=>
        obtain⟨p,hp,rfl,y⟩:=hrel;by_cases Ht:p<m
        · have P:p<ts.length:=by rw[Hb.out];exact Ht
          obtain⟨b3,o3,Hu,_,s3⟩:=(HT.out.below y).get P;cases Hu
          generalize ts[p]'P=tb at*;have Hd:=zI (Hk.out S ta tb wr y Hc.out);have He:=zI (fun W (hW:Below w.heap.size w W)=>Hl.out S ta tb W hW Hc.out);have HX:=zI (Hj.out S ta tb);obtain⟨X,hX⟩:=exE (t2.askV S ta tb);rw[<- hX] at Hd He HX;obtain⟨kk,er,L⟩:=X;have u:=zI y;clear y hX;go_wp2_with fail
          refine Hd.out.mono ?_;rintro e w2 ⟨A2,c2,rfl,Z,Y⟩;dsimp only at Z ⊢;obtain⟨w3,o⟩:=exE (w2.alloc (.cells #[(kk:Int),.slice A2 L.length c2] 45));obtain⟨g3,V⟩:=exE w2.heap.size;have U:Below w2.heap.size w2 w3:=by rw[o];exact(qaa _ _).alloc (qab _) _
          have Hf:Bx w3 g3 45 #[(kk:Int),.slice A2 L.length c2]:=by rw[o,V];exact Bx.new _ _ _
          have O:=zI ((u.out.trans (Y.mono u.out.size)).trans (U.mono (qax u.out.size Y.size)));have Hv:=zI (Jaf Z U);have Hw:=zI Hf;have Hx:=zI o;have Hy:=zI V;have Hz:=zI (He.out w3 O.out);clear Z Y o V U Hf;go_upto_region 11 with fail
          rw[<- Hx.out,<- Hy.out];go_wp2_with fail
          refine Hz.out.mono ?_;rintro e w4 ⟨A4,c4,rfl,M,J⟩;dsimp only at M ⊢;obtain⟨w5,l⟩:=exE (w4.alloc (.cells #[(kk:Int),.slice A4 L.length c4] 45));obtain⟨g5,H⟩:=exE w4.heap.size;have G:Below w4.heap.size w4 w5:=by rw[l];exact(qaa _ _).alloc (qab _) _
          have E:Bx w5 g5 45 #[(kk:Int),.slice A4 L.length c4]:=by rw[l,H];exact Bx.new _ _ _
          have z:Below w3.heap.size w3 w5:=J.trans (G.mono J.size);have H0:=zI (O.out.trans (z.mono O.out.size));obtain⟨_,_,e5,Hg⟩:=Jao (Jaf M G);cases e5
          obtain⟨_,_,e3,Hh⟩:=Jao (Jaf Hv.out z);cases e3
          have H9:=zI (J0w A2 A4 L.length c2 c4 L w5 (Jm1 Hh HX.out.2 (by have:=HX.out.1;omega)) (Jm1 Hg HX.out.2 (by have:=HX.out.1;omega)));have r:=Hw.out.below z;have u0:=r.at_ 0 (v:= (kk:Int)) rfl;have u1:=r.at_ 1 (v:= .slice A2 L.length c2) rfl;have v0:=E.at_ 0 (v:= (kk:Int)) rfl;have v1:=E.at_ 1 (v:= .slice A4 L.length c4) rfl;have Ka:=zI l;have Kb:=zI H;clear M J l H G E z Hg Hh r;go_upto_region 12 with fail
          rw[<- Ka.out,<- Kb.out];generalize L.length=ln at*;go_wp2_with fail
          refine H9.out.mono ?_;rintro e w6 ⟨rfl,q6,Hi⟩;have Kc:=zI (show Below w.heap.size w w6 from by rw[Hi];exact below_drewN H0.out q6);clear Hi u0 u1 v0 v1 s3;go_wp2_with fail
          go_roundw
          case rel=>exact⟨p+1,by omega,by go_num,Kc.out⟩
          case measure=>simp[intOf];omega
        · have u:=zI y
          have Ke:p=m:=(by omega);clear y;go_wp2_with fail
          go_roundw
          case rel=>exact⟨i+1,by omega,by go_num,u.out⟩
          case measure=>simp[intOf];omega
     · have g:=zI x
       clear x;go_wp2_with fail
       go_roundw
       case rel=>exact⟨k+1,by omega,by go_num,g.out⟩
       case measure=>simp[intOf];omega
  · have HB:=zI hb
    clear hb;go_wp2_with fail
    go_ret;exact⟨rfl,HB.out⟩
