/- Laws that the walk of the last text wants. -/
import Derived.WalkSpells
import Derived.WalkLawsBesides
import Derived.BigQuiet
import Derived.StillTailTactics
import Derived.Deep.RegionHeld3
import Derived.Lib.SlMapFilter
import Derived.Maps.Ext
import Derived.Test.YtglmhddbhhcjdaaGreatDoorC2
set_option maxRecDepth 100000
set_option linter.unusedSimpArgs false
set_option maxHeartbeats 4000000
namespace Go.Proofs.YtglmhddbhhcjdaaGreatDoor
open Go.RowKit
structure Ag where
 c:Int
 hi:Int
 lo:Int
 mn:Int
 mx:Int
deriving DecidableEq
def Ag.cells (a:Ag):List Value:=[(a.c:Int),(a.hi:Int),.int .u64 a.lo,(a.mn:Int),(a.mx:Int)]
abbrev Ag.val (a:Ag):Value:= .agg #[(a.c:Int),(a.hi:Int),.int .u64 a.lo,(a.mn:Int),(a.mx:Int)]
def Ag.zero:Ag:=⟨0,0,0,0,0⟩
structure Ag.Ok (a:Ag):Prop where
 c: -9223372036854775808<=a.c/\a.c<=9223372036854775807
 hi: -9223372036854775808<=a.hi/\a.hi<=9223372036854775807
 lo:0<=a.lo/\a.lo<=18446744073709551615
 mn: -9223372036854775808<=a.mn/\a.mn<=9223372036854775807
 mx: -9223372036854775808<=a.mx/\a.mx<=9223372036854775807
def Jbx (a:Ag):Bool:=decide (1<=a.c/\a.c<=4611686018427387904/\a.mn<=a.mx)
theorem Jxw(x y c:Int)(hx:0<=x)(hy:0<=y)(hc0:0<=c)(hc:c<=1)(w:World):(callFunc 272 #[.int .u64 x,.int .u64 y,.int .u64 c]).run Tryz.prog w=
  .ok (.value (.tuple #[.int .u64 ((x+y+c) % 18446744073709551616),.int .u64 ((x+y+c) / 18446744073709551616)])) w:=by
 rw[run_callFunc_extern Tryz.func272 (by kernel_rfl) (by kernel_rfl) (by kernel_rfl) (e:=add64Entry) (by kernel_rfl),run_add64 x y c hx hy hc0 hc];rfl
theorem Jbi(a:Ag)(w:World):Cs 271 #[a.val] w fun e w'=>e= .returned (Jbx a)/\w'=w.alloc (.cells #[(a.c:Int),(a.hi:Int),.int .u64 a.lo,(a.mn:Int),(a.mx:Int)] 140):=by
 by_cases y:1<=a.c
 · by_cases x:a.c<=4611686018427387904
   · have z:=zI (show Jbx a=decide (a.mn<=a.mx) from by unfold Jbx;simp[y,x])
     go_enter Tryz.func271,Tryz.ntmps271;go_wp2;go_ret;exact⟨Jal z.out.symm,rfl⟩
   · have z:=zI (show Jbx a=false from by unfold Jbx;simp[x])
     have v:decide (a.c<=4611686018427387904)=false:=qae x;go_enter Tryz.func271,Tryz.ntmps271;go_wp2;go_ret;exact⟨Jal z.out.symm,rfl⟩
 · have z:=zI (show Jbx a=false from by unfold Jbx;simp[y])
   have v:decide (1<=a.c)=false:=qae y;go_enter Tryz.func271,Tryz.ntmps271;go_wp2;go_ret;exact⟨Jal z.out.symm,rfl⟩
theorem Kaf(z:Int):IntKind.u64.wrap z=z % 18446744073709551616:=by simp[IntKind.wrap,IntKind.bits,IntKind.signed]
theorem Jnk(z:Int):0<=IntKind.u64.wrap z/\IntKind.u64.wrap z<18446744073709551616:=by rw[Kaf];omega
def Jd9 (a b:Ag):Ag:=if a.c=0 then b else
 ⟨if a.c<4611686018427387904 - b.c then a.c+b.c else 4611686018427387904,IntKind.i64.wrap ((IntKind.u64.wrap a.hi+IntKind.u64.wrap b.hi+(a.lo+b.lo) / 18446744073709551616) % 18446744073709551616),(a.lo+b.lo) % 18446744073709551616,min a.mn b.mn,max a.mx b.mx⟩
theorem Jtm(a b:Ag)(w:World)(ha:a.Ok)(hb:b.Ok)(hac:0<=a.c/\a.c<=4611686018427387904)(hbc:0<=b.c/\b.c<=4611686018427387904):Cs 206 #[a.val,b.val] w fun e w'=>e= .returned (Jd9 a b).val/\Below w.heap.size w w':=by
 by_cases z:a.c=0
 · have y:=zI (show Jd9 a b=b from qa0 z)
   obtain⟨c,o,lo,mn,mx⟩:=a;simp only at z;subst z;go_enter Tryz.func206,Tryz.ntmps206;go_wp2;refine qa6 (v:=b.val) (by simp[results,Tryz.results206,go_sem]) rfl ⟨by rw[y.out],?_⟩
   repeat (first | exact qaa _ _ | refine Below.setCell ?_ (by simp) _ | refine qc8 ?_ (by simp;try omega) _)
 · have k1:=fun W=>Jxw a.lo b.lo 0 ha.lo.1 hb.lo.1 (by omega) (by omega) W
   have r:=ha.lo;have x:=hb.lo;have k2:=fun W=>Jxw (IntKind.u64.wrap a.hi) (IntKind.u64.wrap b.hi) ((a.lo+b.lo) / 18446744073709551616) (Jnk _).1 (Jnk _).1 (by omega) (by omega) W;have q:(a.c==0)=false:=qat.2 z;obtain⟨a1,a2⟩:=hac;obtain⟨b1,b2⟩:=hbc;by_cases t:a.c<4611686018427387904 - b.c
   · have y:=zI (show Jd9 a b=⟨a.c+b.c,IntKind.i64.wrap ((IntKind.u64.wrap a.hi+IntKind.u64.wrap b.hi+(a.lo+b.lo) / 18446744073709551616) % 18446744073709551616),(a.lo+b.lo) % 18446744073709551616,min a.mn b.mn,max a.mx b.mx⟩ from by unfold Jd9;rw[qay z,qa0 t])
     have u:(Jd9 a b).val= .agg #[(a.c+b.c:Int),(IntKind.i64.wrap ((IntKind.u64.wrap a.hi+IntKind.u64.wrap b.hi+(a.lo+b.lo) / 18446744073709551616) % 18446744073709551616):Int),.int .u64 ((a.lo+b.lo) % 18446744073709551616),(min a.mn b.mn:Int),(max a.mx b.mx:Int)]:=by unfold Ag.val;rw[y.out]
     have s:=zI u;clear u z r x;go_enter Tryz.func206,Tryz.ntmps206;go_wp2
     all_goals
      rw[s.out];refine qa6 (v:= .agg #[(a.c+b.c:Int),(IntKind.i64.wrap ((IntKind.u64.wrap a.hi+IntKind.u64.wrap b.hi+(a.lo+b.lo) / 18446744073709551616) % 18446744073709551616):Int),.int .u64 ((a.lo+b.lo) % 18446744073709551616),(min a.mn b.mn:Int),(max a.mx b.mx:Int)]) ?_ rfl ⟨rfl,?_⟩
      · simp[results,Tryz.results206,go_sem]
        first | exact⟨by first | rfl | (rw[qdt];rfl) | (unfold wrap64;rw[qdt]),by omega,by omega⟩ | rfl | (rw[qdt];rfl) | (unfold wrap64;rw[qdt])
      · repeat (first | exact qaa _ _ | refine Below.setCell ?_ (by simp) _ | refine qc8 ?_ (by simp;try omega) _)
   · have y:=zI (show Jd9 a b=⟨4611686018427387904,IntKind.i64.wrap ((IntKind.u64.wrap a.hi+IntKind.u64.wrap b.hi+(a.lo+b.lo) / 18446744073709551616) % 18446744073709551616),(a.lo+b.lo) % 18446744073709551616,min a.mn b.mn,max a.mx b.mx⟩ from by unfold Jd9;rw[qay z,qay t])
     have u:(Jd9 a b).val= .agg #[(4611686018427387904:Int),(IntKind.i64.wrap ((IntKind.u64.wrap a.hi+IntKind.u64.wrap b.hi+(a.lo+b.lo) / 18446744073709551616) % 18446744073709551616):Int),.int .u64 ((a.lo+b.lo) % 18446744073709551616),(min a.mn b.mn:Int),(max a.mx b.mx:Int)]:=by unfold Ag.val;rw[y.out]
     have s:=zI u;clear u z r x;have p:decide (a.c<4611686018427387904 - b.c)=false:=qae t;go_enter Tryz.func206,Tryz.ntmps206;go_wp2
     all_goals
      rw[s.out];refine qa6 (v:= .agg #[(4611686018427387904:Int),(IntKind.i64.wrap ((IntKind.u64.wrap a.hi+IntKind.u64.wrap b.hi+(a.lo+b.lo) / 18446744073709551616) % 18446744073709551616):Int),.int .u64 ((a.lo+b.lo) % 18446744073709551616),(min a.mn b.mn:Int),(max a.mx b.mx:Int)]) ?_ rfl ⟨rfl,?_⟩
      · simp[results,Tryz.results206,go_sem]
        first | exact⟨by first | rfl | (rw[qdt];rfl) | (unfold wrap64;rw[qdt]),by omega,by omega⟩ | rfl | (rw[qdt];rfl) | (unfold wrap64;rw[qdt])
      · repeat (first | exact qaa _ _ | refine Below.setCell ?_ (by simp) _ | refine qc8 ?_ (by simp;try omega) _)
structure Ag.Fit (a:Ag):Prop where
 ok:a.Ok
 cnt:0<=a.c/\a.c<=4611686018427387904
theorem Ag.Fit.zero:Ag.zero.Fit:=⟨⟨by decide,by decide,by decide,by decide,by decide⟩,by decide⟩
theorem Ag.Fit.both{a b:Ag}(ha:a.Fit)(hb:b.Fit):(Jd9 a b).Fit:=by
 unfold Jd9;by_cases z:a.c=0
 · rw[qa0 z];exact hb
 · rw[qay z]
   have x:=ha.cnt;have w:=hb.cnt;have v:=ha.ok.mn;have u:=hb.ok.mn;have t:=ha.ok.mx;have s:=hb.ok.mx;have y:=qdt ((IntKind.u64.wrap a.hi+IntKind.u64.wrap b.hi+(a.lo+b.lo) / 18446744073709551616) % 18446744073709551616);refine⟨⟨?_,?_,?_,?_,?_⟩,?_⟩
   · simp only;split<;>omega
   · simp only;rw[y];omega
   · simp only;omega
   · simp only;omega
   · simp only;omega
   · simp only;split<;>omega
def Jaq (s a:Ag):Ag:=if Jbx a=true then Jd9 s a else s
def Jbf (l:List Ag):Ag:=l.foldl Jaq Ag.zero
theorem Jj9(l:List Ag)(a:Ag):Jbf (l++[a])=Jaq (Jbf l) a:=by simp[Jbf,qb8]
theorem Jgd{a:Ag}(h:Jbx a=true):1<=a.c/\a.c<=4611686018427387904/\a.mn<=a.mx:=qb7 h
theorem Ag.Fit.step{s a:Ag}(hs:s.Fit)(ha:a.Ok):(Jaq s a).Fit:=by
 unfold Jaq;split
 · next h=>exact hs.both ⟨ha,by have:=Jgd h;omega⟩
 · exact hs
theorem Ag.Fit.merge:∀ {l:List Ag},(∀a∈l,a.Ok) ->(Jbf l).Fit:=by
 intro l;obtain⟨m,rfl⟩:∃m:List Ag,l=m.reverse:=⟨l.reverse,by simp⟩
 induction m with
 | nil=>intro _;exact Ag.Fit.zero
 | cons a r ih=>
   intro h;rw[qby,Jj9];exact(ih (fun x hx=>h x (by simp at hx ⊢;exact .inl hx))).step (h a (by simp))
structure Ags (w:World) (A:Option Addr) (n:Nat) (l:List Ag):Prop where
 sl:Sl w A (l.flatMap Ag.cells)
 len:l.length=n
 n_le:n<=maxLen
 ok:∀a∈l,a.Ok
theorem flat_get(l:List Ag)(j:Nat)(hj:j<l.length)(q:Nat)(hq:q<5):(l.flatMap Ag.cells)[j*5+q]? =l[j].cells[q]? :=by
 induction l generalizing j with
 | nil=>simp at hj
 | cons a r ih=>
   rw[qau];cases j with
   | zero=>
     rw[qcf (by show 0*5+q<5;omega)];simp
   | succ j=>
     rw[qb6 (by show 5<=_;omega)];have:(j+1)*5+q - a.cells.length=j*5+q:=by show(j+1)*5+q - 5=_;omega
     rw[this,ih j (by simp at hj;omega)];rfl
theorem Ags.get{w:World}{A:Option Addr}{n:Nat}{l:List Ag}(h:Ags w A n l){j:Nat}(hj:j<l.length):∃b off,A=some ⟨b,off,none⟩/\b<w.heap.size/\
  w.cell? ⟨b,off+j*5,none⟩=some (.int .i64 l[j].c)/\w.cell? ⟨b,off+j*5+1,none⟩=some (.int .i64 l[j].hi)/\w.cell? ⟨b,off+j*5+2,none⟩=some (.int .u64 l[j].lo)/\
  w.cell? ⟨b,off+j*5+3,none⟩=some (.int .i64 l[j].mn)/\w.cell? ⟨b,off+j*5+4,none⟩=some (.int .i64 l[j].mx):=by
 have y:l.flatMap Ag.cells≠[]:=by
  cases l with
  | nil=>simp at hj
  | cons a r=>simp[Ag.cells]
 obtain⟨b,off,e,x,z⟩:=h.sl.at_ y;have g:=fun q hq=>flat_get l j hj q hq;have c0:=z (j*5+0) _ (g 0 (by omega));have c1:=z (j*5+1) _ (g 1 (by omega));have c2:=z (j*5+2) _ (g 2 (by omega));have c3:=z (j*5+3) _ (g 3 (by omega));have c4:=z (j*5+4) _ (g 4 (by omega));exact⟨b,off,e,x,c0,by rw[<- qcd] at c1;exact c1,by rw[<- qcd] at c2;exact c2,by rw[<- qcd] at c3;exact c3,by rw[<- qcd] at c4;exact c4⟩
theorem Ags.below{w w':World}{A:Option Addr}{n:Nat}{l:List Ag}(h:Ags w A n l)(hb:Below w.heap.size w w'):Ags w' A n l:=⟨h.sl.below hb,h.len,h.n_le,h.ok⟩
structure Jci (w:World) (b:Nat) (a:Ag):Prop where
 blk:w.heap[b]? =some (.cells #[(a.c:Int),(a.hi:Int),.int .u64 a.lo,(a.mn:Int),(a.mx:Int)] 140 (0,0))
theorem Jci.lt{w:World}{b:Nat}{a:Ag}(h:Jci w b a):b<w.heap.size:=qcb h.blk
theorem Jci.cells{w:World}{b:Nat}{a:Ag}(h:Jci w b a):w.cell? ⟨b,0,none⟩=some (.int .i64 a.c)/\w.cell? ⟨b,1,none⟩=some (.int .i64 a.hi)/\w.cell? ⟨b,2,none⟩=some (.int .u64 a.lo)/\w.cell? ⟨b,3,none⟩=some (.int .i64 a.mn)/\w.cell? ⟨b,4,none⟩=some (.int .i64 a.mx):=
 ⟨qb4 w b 0 _ _ _ h.blk,qb4 w b 1 _ _ _ h.blk,qb4 w b 2 _ _ _ h.blk,qb4 w b 3 _ _ _ h.blk,qb4 w b 4 _ _ _ h.blk⟩
theorem Jci.free{w:World}{b:Nat}{a:Ag}(h:Jci w b a)(j:Nat):w.frozen? ⟨b,j,none⟩=false:=frozen_of_row w b j _ _ h.blk
theorem Jci.below{w w':World}{b:Nat}{a:Ag}(h:Jci w b a)(hb:Below w.heap.size w w'):Jci w' b a:=⟨(hb.block b h.lt).trans h.blk⟩
theorem Jci.new(w:World)(a:Ag):Jci (w.alloc (.cells #[(a.c:Int),(a.hi:Int),.int .u64 a.lo,(a.mn:Int),(a.mx:Int)] 140)) w.heap.size a:=⟨qci w _⟩
theorem Jci.set{w:World}{b:Nat}{a:Ag}(h:Jci w b a)(x:Ag):Jci (((((w.setCell ⟨b,0,none⟩ (x.c:Int)).setCell ⟨b,1,none⟩ (x.hi:Int)).setCell ⟨b,2,none⟩ (.int .u64 x.lo)).setCell ⟨b,3,none⟩ (x.mn:Int)).setCell ⟨b,4,none⟩ (x.mx:Int)) b x:=by
 have z:=qdb w b 0 _ _ (x.c:Int) h.blk;have y:=qdb _ b 1 _ _ (x.hi:Int) z;have v:=qdb _ b 2 _ _ (.int .u64 x.lo) y;have u:=qdb _ b 3 _ _ (x.mn:Int) v;have t:=qdb _ b 4 _ _ (x.mx:Int) u;exact⟨t⟩
theorem Jci.other{w:World}{b:Nat}{a:Ag}(h:Jci w b a){p:Addr}(hp:b≠p.block)(u:Value):Jci (w.setCell p u) b a:=⟨(heap_setCell_other w p b u hp).trans h.blk⟩
theorem Jxx(A:Option Addr)(n c:Nat)(l:List Ag)(w:World)(h:Ags w A n l):Cs 205 #[.slice A n c] w fun e w'=>e= .returned (Jbf l).val/\Below w.heap.size w w':=by
 have d:=h.n_le;have k:=zI h.len;unfold maxLen at d;go_enter Tryz.func205,Tryz.ntmps205;go_wp2;have B0:Jci (w.alloc (.cells #[(0:Int),(0:Int),.int .u64 0,(0:Int),(0:Int)] 140)) w.heap.size Ag.zero:=Jci.new w Ag.zero;have B0':=B0.below ((qaa _ _).alloc (qab _) (.cells #[(0:Int),(0:Int),.int .u64 0,(0:Int),(0:Int)] 140))
 have B1:Jci ((w.alloc (.cells #[(0:Int),(0:Int),.int .u64 0,(0:Int),(0:Int)] 140)).alloc (.cells #[(0:Int),(0:Int),.int .u64 0,(0:Int),(0:Int)] 140)) (w.heap.size+1) Ag.zero:=by
  have:=Jci.new (w.alloc (.cells #[(0:Int),(0:Int),.int .u64 0,(0:Int),(0:Int)] 140)) Ag.zero;rw[show(w.alloc (.cells #[(0:Int),(0:Int),.int .u64 0,(0:Int),(0:Int)] 140)).heap.size=w.heap.size+1 from by simp] at this;exact this
 have t:Below w.heap.size w ((w.alloc (.cells #[(0:Int),(0:Int),.int .u64 0,(0:Int),(0:Int)] 140)).alloc (.cells #[(0:Int),(0:Int),.int .u64 0,(0:Int),(0:Int)] 140)):=((qaa _ _).alloc (qab _) _).alloc (by simp) _;go_loopw [8] (fun i wr=>∃j:Nat,j<=n/\i= .int .i64 j/\Jci wr (w.heap.size+1) (Jbf (l.take j))/\Jci wr w.heap.size Ag.zero/\Below w.heap.size w wr) (fun i _=>n - (intOf i).toNat)
 case atStart=>exact⟨0,qaq _,rfl,B1,B0',t⟩
 case round=>
  clear B0 B0' B1 t;obtain⟨j,T,rfl,S,Z,z⟩:=hrel;have Y:=S.lt;have V:=Z.lt;obtain⟨s0,s1,s2,s3,s4⟩:=S.cells;have f0:=S.free 0;have f1:=S.free 1;have f2:=S.free 2;have f3:=S.free 3;have f4:=S.free 4;by_cases q:j<n
  · have K:j<l.length:=by rw[k.out];exact q
    obtain⟨b,off,rfl,P,c0,c1,c2,c3,c4⟩:=(h.below z).get K;have g:=zI (show Jbf (l.take (j+1))=Jaq (Jbf (l.take j)) l[j] from by rw[qam K,Jj9]);have f:=zI (Ag.Fit.merge (l:=l.take j) (fun a ha=>h.ok a (qbi ha)));have U:=zI (h.ok _ (qan K));generalize l[j]'K=x at*;generalize Jbf (l.take j)=s at*;cases hv:Jbx x
    · have p:=zI hv
      have o:=zI (show Jaq s x=s from by unfold Jaq;rw[hv];simp);clear hv;go_wp2_with (go_at_call 271;refine(Jbi x _).mono ?_;rw[p.out];rintro e w' ⟨rfl,rfl⟩)
      go_roundw
      case rel=>exact⟨j+1,by omega,by go_num,by rw[g.out,o.out];exact(S.below ((qaa _ wr).alloc (qab _) _)).below ((qaa _ _).alloc (qab _) _),(Z.below ((qaa _ wr).alloc (qab _) _)).below ((qaa _ _).alloc (qab _) _),(z.alloc z.size _).alloc (by have:=z.size;simp;omega) _⟩
      case measure=>simp[intOf];omega
    · have p:=zI hv
      have o:=zI (show Jaq s x=Jd9 s x from by unfold Jaq;rw[hv];simp);have m:=zI (Jgd hv);clear hv
      go_wp2_with (first
       | (go_at_call 271;refine(Jbi x _).mono ?_;rw[p.out];rintro e w' ⟨rfl,rfl⟩)
       | (go_at_call 206;refine(Jtm s x _ f.out.ok U.out f.out.cnt (by have:=m.out;omega)).mono ?_;rintro e w5 ⟨rfl,u⟩
          have S5:=((S.below ((qaa _ wr).alloc (qab _) _)).below ((qaa _ _).alloc (qab _) _)).below u;have Z5:=((Z.below ((qaa _ wr).alloc (qab _) _)).below ((qaa _ _).alloc (qab _) _)).below u;have r:=((z.alloc z.size _).alloc (by have:=z.size;simp;omega) _).trans (u.mono (by have:=z.size;simp;omega));obtain⟨s0,s1,s2,s3,s4⟩:=S5.cells;have f0:=S5.free 0;have f1:=S5.free 1;have f2:=S5.free 2;have f3:=S5.free 3;have f4:=S5.free 4))
      go_roundw
      case rel=>exact⟨j+1,by omega,by go_num,by rw[g.out,o.out];exact S5.set (Jd9 s x),((((Z5.other (by simp) _).other (by simp) _).other (by simp) _).other (by simp) _).other (by simp) _,((((r.setCell (by simp) _).setCell (by simp) _).setCell (by simp) _).setCell (by simp) _).setCell (by simp) _⟩
      case measure=>simp[intOf];omega
  · have e1:=zI (show l.take j=l from qap (by rw[k.out];omega))
    rw[e1.out] at S s0 s1 s2 s3 s4;obtain⟨z0,z1,z2,z3,z4⟩:=Z.cells;have p0:=Z.free 0;have p1:=Z.free 1;have p2:=Z.free 2;have p3:=Z.free 3;have p4:=Z.free 4;go_wp2;have R:=Z.set (Jbf l);have y:Below w.heap.size w (((((wr.setCell ⟨w.heap.size,0,none⟩ ((Jbf l).c:Int)).setCell ⟨w.heap.size,1,none⟩ ((Jbf l).hi:Int)).setCell ⟨w.heap.size,2,none⟩ (.int .u64 (Jbf l).lo)).setCell ⟨w.heap.size,3,none⟩ ((Jbf l).mn:Int)).setCell ⟨w.heap.size,4,none⟩ ((Jbf l).mx:Int)):=((((z.setCell (by simp) _).setCell (by simp) _).setCell (by simp) _).setCell (by simp) _).setCell (by simp) _;generalize (((((wr.setCell ⟨w.heap.size,0,none⟩ ((Jbf l).c:Int)).setCell ⟨w.heap.size,1,none⟩ ((Jbf l).hi:Int)).setCell ⟨w.heap.size,2,none⟩ (.int .u64 (Jbf l).lo)).setCell ⟨w.heap.size,3,none⟩ ((Jbf l).mn:Int)).setCell ⟨w.heap.size,4,none⟩ ((Jbf l).mx:Int))=W at R y ⊢;obtain⟨r0,r1,r2,r3,r4⟩:=R.cells;exact qa6 (v:=(Jbf l).val) (by simp[results,Tryz.results205,go_sem,r0,r1,r2,r3,r4]) rfl ⟨rfl,y⟩
def oneG (v:Int):Ag:=⟨1,v / 9223372036854775808,IntKind.u64.wrap v,v,v⟩
theorem Ag.Fit.one{v:Int}(h: -9223372036854775808<=v/\v<=9223372036854775807):(oneG v).Fit:=by
 have z:=Jnk v;refine⟨⟨by simp[oneG],?_,?_,h,h⟩,by simp[oneG]⟩
 · simp only[oneG];omega
 · simp only[oneG];omega
theorem J6q(v:Int)(w:World)(h: -9223372036854775808<=v/\v<=9223372036854775807):Cs 207 #[(v:Int)] w fun e w'=>e= .returned (oneG v).val/\Below w.heap.size w w':=by
 obtain⟨z,y⟩:=h;go_enter Tryz.func207,Tryz.ntmps207;go_wp2;exact qa6 (v:=(oneG v).val) (by simp[results,Tryz.results207,go_sem,oneG]) rfl ⟨rfl,(qaa _ _).alloc (qab _) _⟩
def J6d (s:Ag) (v:Int):Ag:=Jd9 s (oneG v)
def ofL (l:List Int):Ag:=l.foldl J6d Ag.zero
theorem Jtn(l:List Int)(v:Int):ofL (l++[v])=J6d (ofL l) v:=by simp[ofL,qb8]
theorem Jto{z:Int}(h:(Lit.int .i64 z).wf=true): -9223372036854775808<=z/\z<=9223372036854775807:=by
 have:IntKind.i64.min= -9223372036854775808/\IntKind.i64.max=9223372036854775807:=by decide
 simpa[Lit.wf,this.1,this.2] using h
theorem Ag.Fit.of:∀ {l:List Int},(∀v∈l,(Lit.int .i64 v).wf=true) ->(ofL l).Fit:=by
 intro l;obtain⟨m,rfl⟩:∃m:List Int,l=m.reverse:=⟨l.reverse,by simp⟩
 induction m with
 | nil=>intro _;exact Ag.Fit.zero
 | cons a r ih=>
   intro h;rw[qby,Jtn];exact(ih (fun x hx=>h x (by simp at hx ⊢;exact .inl hx))).both (Ag.Fit.one (Jto (h a (by simp))))
theorem J9f(A:Option Addr)(n c:Nat)(l:List Int)(w:World)(h:Ints w .i64 A n l):Cs 125 #[.slice A n c] w fun e w'=>e= .returned (ofL l).val/\Below w.heap.size w w':=by
 have d:=h.n_le;have g:=zI h.len;unfold maxLen at d;go_enter Tryz.func125,Tryz.ntmps125;go_wp2;have B0:Jci (w.alloc (.cells #[(0:Int),(0:Int),.int .u64 0,(0:Int),(0:Int)] 140)) w.heap.size Ag.zero:=Jci.new w Ag.zero;have B0':=B0.below ((qaa _ _).alloc (qab _) (.cells #[(0:Int),(0:Int),.int .u64 0,(0:Int),(0:Int)] 140))
 have B1:Jci ((w.alloc (.cells #[(0:Int),(0:Int),.int .u64 0,(0:Int),(0:Int)] 140)).alloc (.cells #[(0:Int),(0:Int),.int .u64 0,(0:Int),(0:Int)] 140)) (w.heap.size+1) Ag.zero:=by
  have:=Jci.new (w.alloc (.cells #[(0:Int),(0:Int),.int .u64 0,(0:Int),(0:Int)] 140)) Ag.zero;rw[show(w.alloc (.cells #[(0:Int),(0:Int),.int .u64 0,(0:Int),(0:Int)] 140)).heap.size=w.heap.size+1 from by simp] at this;exact this
 have r:Below w.heap.size w ((w.alloc (.cells #[(0:Int),(0:Int),.int .u64 0,(0:Int),(0:Int)] 140)).alloc (.cells #[(0:Int),(0:Int),.int .u64 0,(0:Int),(0:Int)] 140)):=((qaa _ _).alloc (qab _) _).alloc (by simp) _;go_loopw [8] (fun i wr=>∃j:Nat,j<=n/\i= .int .i64 j/\Jci wr (w.heap.size+1) (ofL (l.take j))/\Jci wr w.heap.size Ag.zero/\Below w.heap.size w wr) (fun i _=>n - (intOf i).toNat)
 case atStart=>exact⟨0,qaq _,rfl,B1,B0',r⟩
 case round=>
  clear B0 B0' B1 r;obtain⟨j,T,rfl,S,Z,y⟩:=hrel;have Y:=S.lt;have V:=Z.lt;by_cases o:j<n
  · have K:j<l.length:=by rw[g.out];exact o
    obtain⟨b,off,rfl,P,c0⟩:=(h.below y).get K;have U:=zI (show ofL (l.take (j+1))=Jd9 (ofL (l.take j)) (oneG l[j]) from by rw[qam K,Jtn];rfl);have f:=zI (Ag.Fit.of (l:=l.take j) (fun a ha=>h.wf a (qbi ha)));have m:=zI (Jto (h.wf _ (qan K)));generalize l[j]'K=x at*;generalize ofL (l.take j)=s at*;obtain⟨s0,s1,s2,s3,s4⟩:=S.cells;have SD:=S.below ((qaa wr.heap.size wr).drew);have ZD:=Z.below ((qaa wr.heap.size wr).drew);have q:=y.drew;obtain⟨d0,d1,d2,d3,d4⟩:=SD.cells;clear s0 s1 s2 s3 s4;go_wp2_with fail
    go_region_with (first
     | (go_at_call 207;refine(J6q x _ m.out).mono ?_;rintro e wq ⟨rfl,u⟩
        have S2:=SD.below u;have Z2:=ZD.below u;have p:=q.trans (u.mono q.size);obtain⟨e0,e1,e2,e3,e4⟩:=S2.cells)
     | (go_at_call 206;refine(Jtm s (oneG x) _ f.out.ok (Ag.Fit.one m.out).ok f.out.cnt (Ag.Fit.one m.out).cnt).mono ?_;rintro e wp ⟨rfl,t⟩
        have S3:=S2.below t;have Z3:=Z2.below t;have k:=p.trans (t.mono p.size);obtain⟨p0,p1,p2,p3,p4⟩:=S3.cells;have f0:=S3.free 0;have f1:=S3.free 1;have f2:=S3.free 2;have f3:=S3.free 3;have f4:=S3.free 4))
    all_goals
     go_wp2;go_roundw
     case rel=>exact⟨j+1,by omega,by go_num,by rw[U.out];exact S3.set (Jd9 s (oneG x)),((((Z3.other (by simp) _).other (by simp) _).other (by simp) _).other (by simp) _).other (by simp) _,((((k.setCell (by simp) _).setCell (by simp) _).setCell (by simp) _).setCell (by simp) _).setCell (by simp) _⟩
     case measure=>simp[intOf];omega
  · have e1:=zI (show l.take j=l from qap (by rw[g.out];omega))
    rw[e1.out] at S;obtain⟨s0,s1,s2,s3,s4⟩:=S.cells;obtain⟨z0,z1,z2,z3,z4⟩:=Z.cells;have p0:=Z.free 0;have p1:=Z.free 1;have p2:=Z.free 2;have p3:=Z.free 3;have p4:=Z.free 4;go_wp2;have R:=Z.set (ofL l);have z:Below w.heap.size w (((((wr.setCell ⟨w.heap.size,0,none⟩ ((ofL l).c:Int)).setCell ⟨w.heap.size,1,none⟩ ((ofL l).hi:Int)).setCell ⟨w.heap.size,2,none⟩ (.int .u64 (ofL l).lo)).setCell ⟨w.heap.size,3,none⟩ ((ofL l).mn:Int)).setCell ⟨w.heap.size,4,none⟩ ((ofL l).mx:Int)):=((((y.setCell (by simp) _).setCell (by simp) _).setCell (by simp) _).setCell (by simp) _).setCell (by simp) _;generalize (((((wr.setCell ⟨w.heap.size,0,none⟩ ((ofL l).c:Int)).setCell ⟨w.heap.size,1,none⟩ ((ofL l).hi:Int)).setCell ⟨w.heap.size,2,none⟩ (.int .u64 (ofL l).lo)).setCell ⟨w.heap.size,3,none⟩ ((ofL l).mn:Int)).setCell ⟨w.heap.size,4,none⟩ ((ofL l).mx:Int))=W at R z ⊢;obtain⟨r0,r1,r2,r3,r4⟩:=R.cells;exact qa6 (v:=(ofL l).val) (by simp[results,Tryz.results125,go_sem,r0,r1,r2,r3,r4]) rfl ⟨rfl,z⟩
open Go.Maps
def klit (s:ByteArray) (n:Int):Lit:= .string (keyBytes [.string s.data.toList,.int .i64 n])
abbrev Jcp (s:ByteArray) (n:Int):Value:= .agg #[s,(n:Int)]
theorem Jo4:∃m,Tryz.prog.types.size=m+1:=by
 have h:0<Tryz.prog.types.size:=qb7 (by kernel_rfl);exact⟨Tryz.prog.types.size - 1,by omega⟩
theorem Jbq:Keyed Tryz.prog 289:=Keyed.of_law (deep_law_laid (by kernel_rfl) (m:=3) (by omega) (qb7 (by kernel_rfl)) (by kernel_rfl) (by kernel_rfl))
theorem Jo5{s:ByteArray}{n:Int}(hs:s.size<=maxLen)(hn:(Lit.int .i64 n).wf=true):keyOf Tryz.prog 289 (Jcp s n)=some (klit s n):=by
 obtain⟨m,y⟩:=Jo4;have x:Tryz.prog.keyType 289=true:=by kernel_rfl
 have w:(Jcp s n).formed Tryz.prog 289=true:=by
  have z:Tryz.prog.cellsOf 289=2:=by kernel_rfl
  simp[Value.formed,Tryz.underlying289,z]
 have z:Tryz.prog.cellsOf 289=2:=by kernel_rfl
 have c3:Tryz.prog.cellsOf 3=1:=by kernel_rfl
 have c9:Tryz.prog.cellsOf 9=1:=by kernel_rfl
 have v:Tryz.prog.keyLits (Tryz.prog.types.size+1) 289 (Jcp s n).cells.toList=some [.string s.data.toList,.int .i64 n]:=by
  rw[y];simp[Program.keyLits,Value.cells,Tryz.underlying289,Tryz.underlying9,Tryz.underlying3,z,c3,c9,hs,hn]
 unfold keyOf;rw[Tryz.underlying289];simp only[x,w,Bool.and_self,if_true,v,Option.map_some];rfl
structure Rc where
 nm:ByteArray
 st:Int
 ag:Ag
deriving DecidableEq
def Rc.cells (r:Rc):List Value:= r.nm:: (r.st:Int)::r.ag.cells
abbrev Rc.val (r:Rc):Value:= .agg #[r.nm,(r.st:Int),(r.ag.c:Int),(r.ag.hi:Int),.int .u64 r.ag.lo,(r.ag.mn:Int),(r.ag.mx:Int)]
structure Rc.Ok (r:Rc):Prop where
 nm:r.nm.size<=maxLen
 st:(Lit.int .i64 r.st).wf=true
 ag:r.ag.Fit
def agD (a:Ag):DataW Unit:= .agg [.lit (.int .i64 a.c),.lit (.int .i64 a.hi),.lit (.int .u64 a.lo),.lit (.int .i64 a.mn),.lit (.int .i64 a.mx)]
def Jc3 (v:Value):Option (DataW Unit×List MemPlace):=match v with
 | .agg xs=>match xs.toList with
   | [.int .i64 c,.int .i64 hi,.int .u64 lo,.int .i64 mn,.int .i64 mx]=>some (agD ⟨c,hi,lo,mn,mx⟩,[])
   | _=>none
 | _=>none
theorem Jo6(a:Ag):Jc3 a.val=some (agD a,[]):=rfl
theorem Jip{v:Value}{z:DataW Unit×List MemPlace}(h:Jc3 v=some z):∃a:Ag,v=a.val/\z=(agD a,[]):=by
 unfold Jc3 at h;split at h
 · next xs=>
   split at h
   · next c hi lo mn mx e=>
     cases h
     refine⟨⟨c,hi,lo,mn,mx⟩,?_,rfl⟩;show Value.agg xs=Value.agg _
     congr 1
     exact(show xs=xs.toList.toArray from by simp).trans (by rw[e])
   · cases h
 · cases h
theorem Jrx{a b:Ag}(h:agD a=agD b):a=b:=by
 obtain⟨c,y,lo,mn,mx⟩:=a;obtain⟨c',z,lo',mn',mx'⟩:=b;simp[agD] at h;simp[h]
theorem Jry{v:Value}{l:Lit}(h:keyOf Tryz.prog 289 v=some l):∃s n,v=Jcp s n/\l=klit s n/\s.size<=maxLen/\(Lit.int .i64 n).wf=true:=by
 obtain⟨xs,L,rfl,z,rfl⟩:=keyOf_top (by rw[Tryz.underlying289]) h;obtain⟨m,u⟩:=Jo4;have t:Tryz.prog.cellsOf 289=2:=by kernel_rfl
 have c3:Tryz.prog.cellsOf 3=1:=by kernel_rfl
 have c9:Tryz.prog.cellsOf 9=1:=by kernel_rfl
 rw[u] at z;unfold Program.keyLits at z;simp only[Tryz.underlying289] at z;split at z
 · rename_i hlen
   obtain⟨a,b,e⟩:∃a b,xs.toList=[a,b]:=by 
    have:=hlen.1;rw[t] at this;cases hx:xs.toList with
    | nil=>rw[hx] at this;simp at this
    | cons a r=>
      rw[hx] at this;cases r with
      | nil=>simp at this
      | cons b r=>
        cases r with
        | nil=>exact⟨a,b,rfl⟩
        | cons c r=>simp at this
   rw[e] at z;have ex:xs=#[a,b]:=(show xs=xs.toList.toArray from by simp).trans (by rw[e]);cases a<;>simp[Program.keyLits,Tryz.underlying9,Tryz.underlying3,c3,c9] at z
   rename_i s
   by_cases y:s.size<=maxLen
   · cases b<;>simp[y] at z
     rename_i k n
     by_cases x:k=IntKind.i64/\(Lit.int IntKind.i64 n).wf=true
     · obtain⟨rfl,w⟩:=x
       simp[w] at z;exact⟨s,n,by rw[ex],by rw[<- z];rfl,y,w⟩
     · simp[x] at z
   · simp[y] at z
 · cases z
theorem Jtp{s t:ByteArray}{a b:Int}(hs:s.size<=maxLen)(ha:(Lit.int .i64 a).wf=true)(ht:t.size<=maxLen)(hb:(Lit.int .i64 b).wf=true)(h:klit s a=klit t b):s=t/\a=b:=by
 have y:=Jo5 hs ha;have z:=Jo5 ht hb;rw[<- h] at z;have:=Jbq.inj y z
 simpa[Jcp] using this
theorem bytes_inj{s t:ByteArray}(h:s.toList=t.toList):s=t:=by
 rw[qaw,qaw] at h;exact ByteArray.ext (Array.toList_inj.1 h)
def Rc.lt (r s:Rc):Prop:=ahead r.nm.toList r.st s.nm.toList s.st
def Rc.same (r s:Rc):Bool:=decide (r.nm=s.nm/\r.st=s.st)
theorem Rc.same_iff{r s:Rc}:r.same s=true↔r.nm=s.nm/\r.st=s.st:=by unfold Rc.same;rw[decide_eq_true_iff]
theorem Rc.same_symm(r s:Rc):r.same s=s.same r:=by
 unfold Rc.same;rw[qcg];simp only[qbc];constructor<;>rintro⟨z,y⟩<;>exact⟨z.symm,y.symm⟩
theorem Rc.lt_not_same{r s:Rc}(h:r.lt s):r.same s=false:=by
 cases hs:r.same s
 · rfl
 · obtain⟨z,y⟩:=Rc.same_iff.1 hs
   unfold Rc.lt at h;rw[z,y] at h;exact absurd h (Jfo _ _)
theorem Rc.lt_trans{r s t:Rc}(h:r.lt s)(k:s.lt t):r.lt t:=Jj7 h k
theorem Rc.total{r s:Rc}(h: ¬ r.lt s)(k:r.same s=false):s.lt r:=by
 by_cases g:s.lt r
 · exact g
 · obtain⟨z,y⟩:=Jj8 h g
   rw[show r.same s=true from Rc.same_iff.2 ⟨bytes_inj z,y⟩] at k;cases k
theorem Rc.lt_of_same{r s t:Rc}(h:r.same s=true)(k:s.lt t):r.lt t:=by
 obtain⟨z,y⟩:=Rc.same_iff.1 h;unfold Rc.lt at*;rw[z,y];exact k
open Classical in
noncomputable def putR (x:Rc):List Rc ->List Rc
 | []=>[x]
 | y::r=>if x.same y=true then x::r else if x.lt y then x::y::r else y::putR x r
theorem Jjo{x z:Rc}:∀ {l:List Rc},z∈putR x l ->z=x\/z∈l
 | [],h=>by simp[putR] at h;exact .inl h
 | y :: r,h=>by
   unfold putR at h;split at h
   · rcases qbb.1 h with h | h
     · exact .inl h
     · exact .inr (by simp[h])
   · split at h
     · rcases qbb.1 h with h | h
       · exact .inl h
       · exact .inr h
     · rcases qbb.1 h with h | h
       · exact .inr (by simp[h])
       · rcases Jjo h with h | h
         · exact .inl h
         · exact .inr (by simp[h])
theorem Jnl{x:Rc}:∀ {l:List Rc},l.Pairwise Rc.lt ->(putR x l).Pairwise Rc.lt
 | [],_=>by simp[putR]
 | y ::r,h=>by
   rw[qa9] at h;unfold putR;split
   · next e=>
     rw[qa9];exact⟨fun z w=>Rc.lt_of_same e (h.1 z w),h.2⟩
   · next e=>
     split
     · next k=>
       rw[qa9];refine⟨fun z w=> ?_,qa9.2 h⟩;rcases qbb.1 w with rfl | w
       · exact k
       · exact Rc.lt_trans k (h.1 z w)
     · next k=>
       rw[qa9];refine⟨fun z w=> ?_,Jnl h.2⟩;rcases Jjo w with rfl | w
       · exact Rc.total k (by simpa using e)
       · exact h.1 z w
theorem Jka{x:Rc}:∀ {l:List Rc},l.Pairwise Rc.lt ->(putR x l).Perm (x::l.filter fun y=> !x.same y)
 | [],_=>by simp[putR]
 | y :: r,h=>by
   rw[qa9] at h;unfold putR;split
   · next e=>
     have e2:(y::r).filter (fun y=> !x.same y)=r:=by
      rw[qbv,qay (by simp[e])];exact qbx.2 (fun z w=>by rw[Rc.lt_not_same (Rc.lt_of_same e (h.1 z w))];rfl)
     rw[e2]
   · next e=>
     split
     · next k=>
       rw[qbx.2 (fun z w=>by
        rcases qbb.1 w with rfl | w
        · simpa using e
        · rw[Rc.lt_not_same (Rc.lt_trans k (h.1 z w))];rfl)]
     · next k=>
       rw[qbv,qa0 (by simpa using e)];exact((Jka h.2).cons y).trans (List.Perm.swap x y _)
theorem Jrz:∀ {l k:List Rc},l.Pairwise Rc.lt ->k.Pairwise Rc.lt ->l.Perm k ->l=k
 | [],k,_,_,h=>by have:=h.length_eq;simp at this;exact(qa5 this.symm).symm
 | x::r,[],_,_,h=>by have:=h.length_eq;simp at this
 | x ::r,y::s,hl,hk,h=>by
   rw[qa9] at hl hk
   have e:x=y:=by
    have z:=h.mem_iff.1 (show x∈x::r by simp);have w:=h.mem_iff.2 (show y∈y::s by simp);rcases qbb.1 z with z | z
    · exact z
    · rcases qbb.1 w with w | w
      · exact w.symm
      · exact absurd (Rc.lt_trans (hl.1 y w) (hk.1 x z)) (Jfo _ _)
   subst e;rw[Jrz hl.2 hk.2 (List.perm_cons x |>.1 h)]
def Jiq (l:List Rc) (s:ByteArray) (n:Int):Option Rc:=l.find? fun r=>decide (r.nm=s/\r.st=n)
theorem Jek{l:List Rc}{s:ByteArray}{n:Int}{r:Rc}(h:Jiq l s n=some r):r∈l/\r.nm=s/\r.st=n:=by
 have y:=List.mem_of_find?_eq_some h;have z:=List.find?_some h;rw[decide_eq_true_iff] at z;exact⟨y,z⟩
theorem Jvs{l:List Rc}{s:ByteArray}{n:Int}(h:Jiq l s n=none):∀r∈l,¬ (r.nm=s/\r.st=n):=by
 intro r z;have:=List.find?_eq_none.1 h r z
 simpa using this
def recP (r:Rc):Lit×DataW Unit:=(klit r.nm r.st,agD r.ag)
structure Rep (D:DataW Unit) (l:List Rc):Prop where
 perm:∃ps,D= .map ps/\ps.Perm (l.map recP)
 ok:∀r∈l,r.Ok
 ord:l.Pairwise Rc.lt
theorem Jge{r:Rc}(hr:r.Ok){s:ByteArray}{n:Int}(hs:s.size<=maxLen)(hn:(Lit.int .i64 n).wf=true):klit r.nm r.st=klit s n↔r.nm=s/\r.st=n:=
 ⟨fun h=>Jtp hr.nm hr.st hs hn h,fun ⟨h1,h2⟩=>by rw[h1,h2]⟩
theorem Jhp{a b:Int}{s t:ByteArray}:(klit s a).sameKey (klit t b)=true↔klit s a=klit t b:=
 WideAt.sameKey_iff (by simp[klit,WideAt.IsKeyLit])
theorem Rep.size{D:DataW Unit}{l:List Rc}(h:Rep D l):Maps.size D=l.length:=by
 obtain⟨ps,rfl,z⟩:=h.perm;rw[Maps.size_eq,z.length_eq,qa4]
theorem Rep.apart{D:DataW Unit}{l:List Rc}(h:Rep D l):∃ps,D= .map ps/\ps.Perm (l.map recP)/\ps.Pairwise (fun p q=>p.1≠q.1):=by
 obtain⟨ps,rfl,y⟩:=h.perm;refine⟨ps,rfl,y,?_⟩;refine(y.pairwise_iff (fun {_ _} hne=>Ne.symm hne)).2 ?_;rw[List.pairwise_map];refine List.Pairwise.imp_of_mem ?_ h.ord;intro a b w x z e;obtain⟨v,u⟩:=(Jge (h.ok a w) (h.ok b x).nm (h.ok b x).st).1 e;have:=Rc.lt_not_same z;rw[Rc.same_iff.2 ⟨v,u⟩] at this;cases this
theorem Rep.has{D:DataW Unit}{l:List Rc}(h:Rep D l){s:ByteArray}{n:Int}(hs:s.size<=maxLen)(hn:(Lit.int .i64 n).wf=true):Maps.has D (klit s n)=(Jiq l s n).isSome:=by
 obtain⟨ps,rfl,w⟩:=h.perm;rw[Maps.has_eq,qcg];unfold Jiq;rw[List.any_eq_true,List.find?_isSome];constructor
 · rintro⟨p,y,x⟩
   obtain⟨r,z,rfl⟩:=qbn.1 (w.mem_iff.1 y);exact⟨r,z,qaj ((Jge (h.ok r z) hs hn).1 (WideAt.sameKey_eq x))⟩
 · rintro⟨r,z,x⟩
   refine⟨recP r,w.mem_iff.2 (qbn.2 ⟨r,z,rfl⟩),?_⟩;show(klit r.nm r.st).sameKey _=true;exact Jhp.2 ((Jge (h.ok r z) hs hn).2 (qb7 x))
theorem Rep.at_{D:DataW Unit}{l:List Rc}(h:Rep D l){s:ByteArray}{n:Int}(hs:s.size<=maxLen)(hn:(Lit.int .i64 n).wf=true)(z:DataW Unit):D.atKey (klit s n) z=match Jiq l s n with | some r=>agD r.ag | none=>z:=by
 obtain⟨ps,rfl,w,x⟩:=h.apart;cases hf:Jiq l s n with
 | none=>
   refine WideAt.atKey_none z (fun p hpm e=> ?_);obtain⟨r,y,rfl⟩:=qbn.1 (w.mem_iff.1 hpm);exact Jvs hf r y ((Jge (h.ok r y) hs hn).1 e)
 | some r=>
   obtain⟨y,rfl,rfl⟩:=Jek hf;exact WideAt.atKey_mem z (Jbq.key (Jo5 hs hn)) x (w.mem_iff.2 (qbn.2 ⟨r,y,rfl⟩))
theorem Rep.put{D:DataW Unit}{l:List Rc}(h:Rep D l){x:Rc}(hx:x.Ok):Rep (D.put (klit x.nm x.st) (agD x.ag)) (putR x l):=by
 obtain⟨ps,rfl,y⟩:=h.perm;refine⟨?_,fun r z=> ?_,Jnl h.ord⟩
 · refine⟨_,by unfold DataW.put;rfl,?_⟩
   refine(WideShapes.insert_perm _ _).trans ?_;have w:=(Jka (x:=x) h.ord).map recP;refine List.Perm.trans ?_ w.symm;rw[qbz];refine List.Perm.cons _ ?_;refine(y.filter _).trans ?_;rw[List.filter_map];refine List.Perm.of_eq ?_
   congr 1
   apply qb9;intro r z;show(!(klit r.nm r.st).sameKey (klit x.nm x.st))= !x.same r
   congr 1
   rw[qcg,Rc.same_symm,Rc.same_iff];exact Jhp.trans (Jge (h.ok r z) hx.nm hx.st)
 · rcases Jjo z with rfl | z
   · exact hx
   · exact h.ok r z
theorem Rep.drop{D:DataW Unit}{l:List Rc}(h:Rep D l){pd:Lit ->DataW Unit ->Bool}{p:Rc ->Bool}(hpd:∀r∈l,pd (klit r.nm r.st) (agD r.ag)=p r):Rep (Lib.deleteFuncD pd D) (l.filter fun r=> !p r):=by
 obtain⟨ps,rfl,y⟩:=h.perm;refine⟨⟨_,rfl,?_⟩,fun r z=>h.ok r (qbf.1 z).1,h.ord.filter _⟩;refine(y.filter _).trans ?_;rw[List.filter_map];refine List.Perm.of_eq ?_
 congr 1
 apply qb9;intro r z;show(!pd (klit r.nm r.st) (agD r.ag))= !p r;rw[hpd r z]
theorem Rep.nil:Rep (.map []) []:=⟨⟨[],rfl,List.Perm.refl _⟩,by simp,List.Pairwise.nil⟩
theorem Rep.next{D:DataW Unit}{l:List Rc}(h:Rep D l){v:Value}{kl:Lit}{c:Value}{y:DataW Unit×List MemPlace}(hk:keyOf Tryz.prog 289 v=some kl)(hc:Jc3 c=some y)(hat:∀z,D.atKey kl z=y.1):
  ∃r∈l,v=Jcp r.nm r.st/\kl=klit r.nm r.st/\c=r.ag.val:=by
 obtain⟨s,n,rfl,rfl,w,u⟩:=Jry hk;obtain⟨a,rfl,rfl⟩:=Jip hc;have e:=h.at_ w u;cases hf:Jiq l s n with
 | none=>
   rw[hf] at e;have x:=(e .nil).symm.trans (hat .nil);cases x
 | some r=>
   rw[hf] at e;obtain⟨t,rfl,rfl⟩:=Jek hf;have x:=Jrx ((e .nil).symm.trans (hat .nil));exact⟨r,t,rfl,rfl,by rw[x]⟩
