/-
  Several texts in one: Table, TableOn, Grid, Back, Reach.
-/
import Derived.Laws.IdiomRangeMap
import Derived.Deep.LoopGhost
import Derived.Test.YtglmhddbhhcjdaaGreatDoorV3
import Derived.Test.YtglmhddbhhcjdaaGreatDoorV4
set_option maxRecDepth 100000
set_option linter.unusedSimpArgs false
set_option maxHeartbeats 4000000
namespace Go.Proofs.YtglmhddbhhcjdaaGreatDoor
open Go.RowKit Go.Maps
theorem Jb2{H:Type}{P:Program}{k:TypeId}{R:Value ->Option (DataW H×List MemPlace)}{w:World}{b n:Nat}{D:DataW H}(h:w.ownsMap P k R b n D):w.ownsMap P k R b (Maps.size D) D:=by
 obtain⟨es,clock,y,x,v,z⟩:=h;refine⟨es,clock,y,x,?_,z⟩;rw[z,Maps.size_eq,length_sorted];simp
theorem Jaa{a b:World}(h:Below a.heap.size a b)(row:Option Nat):a.grownBy b row:=⟨h.os,h.tape,h.output,h.size,fun i hi _=>h.block i hi⟩
theorem J58(w:World):(zeroValue 140).run Tryz.prog w= .ok Ag.zero.val w:=by kernel_rfl
structure MapAt (w:World) (mm:Nat) (l:List Rc):Prop where
 own:∃D,w.ownsMap Tryz.prog 289 Jcy mm l.length D/\Rep D l
theorem MapAt.mk'{w:World}{mm n:Nat}{D:DataW Unit}{l:List Rc}(h:w.ownsMap Tryz.prog 289 Jcy mm n D)(hr:Rep D l):MapAt w mm l:=
 ⟨D,by have:=Jb2 h;rwa [hr.size] at this,hr⟩
theorem MapAt.lt{w:World}{mm:Nat}{l:List Rc}(h:MapAt w mm l):mm<w.heap.size:=by obtain⟨D,z,_⟩:=h.own;exact z.lt
theorem MapAt.grown{w w':World}{mm:Nat}{l:List Rc}{row:Option Nat}(h:MapAt w mm l)(hg:w.grownBy w' row)(hne:some mm≠row):MapAt w' mm l:=by
 obtain⟨D,z,y⟩:=h.own;exact⟨D,z.kept hg hne,y⟩
theorem MapAt.below{w w':World}{mm:Nat}{l:List Rc}(h:MapAt w mm l)(hb:Below w.heap.size w w'):MapAt w' mm l:=h.grown (Jaa hb none) (by simp)
structure Jal (w:World) (g mm:Nat) (ev:Int) (l:List Rc):Prop where
 blk:w.heap[g]? =some (.cells #[(ev:Int),.map (some mm)] 257 (0,0))
 map:MapAt w mm l
section
variable {w w':World} {g mm:Nat} {ev:Int} {l:List Rc}
theorem Jal.lt(h:Jal w g mm ev l):g<w.heap.size:=qb2 h.blk
theorem Jal.cells(h:Jal w g mm ev l):w.cell? ⟨g,0,none⟩=some (.int .i64 ev)/\w.cell? ⟨g,1,none⟩=some (.map (some mm)):=
 ⟨qb1 w g 0 _ _ _ h.blk,qb1 w g 1 _ _ _ h.blk⟩
theorem Jal.ne(h:Jal w g mm ev l):g≠mm:=by
 intro e;obtain⟨D,⟨es,c,z,_⟩,_⟩:=h.map.own;have:=h.blk;rw[e,z] at this;cases this
theorem Jal.below(h:Jal w g mm ev l)(hb:Below w.heap.size w w'):Jal w' g mm ev l:=⟨(hb.block g h.lt).trans h.blk,h.map.below hb⟩
theorem Jal.grown(h:Jal w g mm ev l){row:Option Nat}(hg:w.grownBy w' row)(h1:some g≠row)(h2:some mm≠row):Jal w' g mm ev l:=
 ⟨(hg.block g h.lt h1).trans h.blk,h.map.grown hg h2⟩
theorem Jal.turned(h:Jal w g mm ev l)(hg:w.grownBy w' (some mm)){k:List Rc}(hm:MapAt w' mm k):Jal w' g mm ev k:=
 ⟨(hg.block g h.lt (fun e=>h.ne (by injection e))).trans h.blk,hm⟩
end
theorem Jju{w:World}{g mm:Nat}{ev:Int}{l:List Rc}(h:Jal w g mm ev l):
  Cs 203 #[g] w fun e w'=>e= .returned false/\w=w':=by
 obtain⟨c0,c1⟩:=h.cells;have z:=fun W=>run_eql_map_nil (P:=Tryz.prog) W _ _ _ (some mm) Tryz.underlying255;go_enter Tryz.func203,Tryz.ntmps203;go_wp2;go_ret;exact⟨rfl,rfl⟩
theorem J15(n:Int)(w:World):Cs 98 #[(n:Int)] w fun e w'=>∃g mm,e= .returned (g:Nat)/\Jal w' g mm (max n 1) []/\Below w.heap.size w w'/\w.heap.size<=g/\w.heap.size<=mm:=by
 have z:=@run_makeMap Tryz.prog;go_enter Tryz.func98,Tryz.ntmps98;go_wp2;go_ret;refine⟨w.heap.size+1,w.heap.size,rfl,⟨by have:=qcg (w.alloc (.map #[] 0)) (.cells #[(max n 1:Int),.map (some w.heap.size)] 257);simpa using this,?_⟩,((qaa _ _).alloc (by omega) _).alloc (by simp) _,by omega,by omega⟩;exact⟨_,(World.ownsMap_made w _ _ _).alloc _,Rep.nil⟩
theorem J16{w:World}{g mm:Nat}{ev:Int}{l:List Rc}(h:Jal w g mm ev l):
  Cs 89 #[g] w (RS w (l.length:Int)):=by
 obtain⟨c0,c1⟩:=h.cells;obtain⟨D,z,y⟩:=h.map.own
 have x:∀ty,(Builtin.len_ #[255] ty #[.map (some mm)]).run Tryz.prog w= .ok (l.length:Int) w:=fun ty=>by
  rw[z.len Tryz.underlying255 ty,y.size]
 go_enter Tryz.func89,Tryz.ntmps89;go_wp2;go_ret;exact⟨rfl,rfl⟩
def onB (t e:Int):Bool:=decide (1<=e/\t.tmod e=0)
theorem Jlq(t e:Int)(w:World)(_: -9223372036854775808<=t/\t<=9223372036854775807)(_: -9223372036854775808<=e/\e<=9223372036854775807):Cs 96 #[(t:Int),(e:Int)] w fun x w'=>x= .returned (onB t e)/\w=w':=by
 by_cases y:1<=e
 · have v:e≠0:=by omega
   have z:=zI (show onB t e=decide (t.tmod e=0) from by unfold onB;simp[y]);go_enter Tryz.func96,Tryz.ntmps96;go_wp2;go_ret;exact⟨Jaj (by rw[z.out];first | rfl | simp | (rw[qcd];simp)),rfl⟩
 · have z:=zI (show onB t e=false from qae (by omega))
   have u:decide (1<=e)=false:=qae y;go_enter Tryz.func96,Tryz.ntmps96;go_wp2;go_ret;exact⟨Jaj z.out.symm,rfl⟩
theorem one_cell{w:World}{b:Nat}{s:ByteArray}(h:w.cell? ⟨b,0,none⟩=some (.string s)):∀i (hi:i<[s].length),w.cell? ⟨b,0+i,none⟩=some (.string ([s][i])):=by
 intro i hi;have:i=0:=by simpa using hi
 subst this;exact h
theorem Jfk{w:World}{o:Obj}{a:Addr}{v:Value}(h:w.cell? a=some v):(w.alloc o).cell? a=some v:=(qbj w o none).cell h (by simp)
def Jat (ev:Int) (r:Rc):Bool:=Jaf r.nm.toList && decide (0<=r.st) && onB r.st ev && Jb3 r.ag
end Go.Proofs.YtglmhddbhhcjdaaGreatDoor
namespace Go.Proofs.YtglmhddbhhcjdaaGreatDoor
open Go.RowKit
def flr (t e:Int):Int:=t - t % e
theorem Jjv{t e:Int}(h:0<=t)(he:1<=e):0<=flr t e/\flr t e<=t:=by
 have y:=Int.emod_nonneg t (show e≠0 by omega)
 have x:t % e<=t:=by
  rcases Int.lt_or_le t e with z | z
  · rw[Int.emod_eq_of_lt h z];omega
  · have:=Int.emod_lt_of_pos t (show 0<e by omega);omega
 unfold flr;omega
theorem Jjb{t:Int}(h:0<=t)(e:Int):t.tmod e=t % e:=Int.tmod_eq_emod_of_nonneg h
theorem Jo3(t e:Int)(w:World)(h:0<=t/\t<=9223372036854775807)(he:1<=e/\e<=9223372036854775807):Cs 126 #[(t:Int),(e:Int)] w fun x w'=>x= .returned (flr t e:Int)/\w=w':=by
 obtain⟨y,r⟩:=h;obtain⟨e1,e2⟩:=he;have z:e≠0:=by omega
 have g1:=Int.emod_nonneg t z;have g2:=Jjv y e1;have v:=zI (Jjb y e);have q:decide (e<1)=false:=qae (by omega);have u:decide (t % e<0)=false:=qae (by omega);have s:decide (t.tmod e<0)=false:=by rw[v.out];exact u
 unfold flr at g2;obtain⟨g3,g4⟩:=g2;go_enter Tryz.func126,Tryz.ntmps126;go_wp2;go_ret;exact⟨Jby (by unfold flr;first | rfl | (rw[v.out])),rfl⟩
theorem Jjw(a b:Int)(w:World)(ha:1<=a/\a<=9223372036854775807)(hb:0<=b/\b<=9223372036854775807):Cs 257 #[(a:Int),(b:Int)] w fun x w'=>x= .returned (decide (b % a=0))/\w=w':=by
 obtain⟨v,u⟩:=ha;obtain⟨e1,e2⟩:=hb;have y:a≠0:=by omega
 have z:=zI (Jjb e1 a);go_enter Tryz.func257,Tryz.ntmps257;go_wp2;go_ret;exact⟨Jaj (by first | rfl | (rw[z.out];rfl) | (rw[qcd];simp) | (rw[z.out,qcd];simp)),rfl⟩
def flrE (t e:Int):Int:=if e<1 then t else flr t e
theorem Ju9(t e:Int)(w:World)(h:0<=t/\t<=9223372036854775807)(he: -9223372036854775808<=e/\e<=9223372036854775807):Cs 126 #[(t:Int),(e:Int)] w fun x w'=>x= .returned (flrE t e:Int)/\w=w':=by
 by_cases z:e<1
 · have y:=zI (show flrE t e=t from qa2 z)
   go_enter Tryz.func126,Tryz.ntmps126;go_wp2;go_ret;exact⟨Jby y.out.symm,rfl⟩
 · rw[show flrE t e=flr t e from qav z]
   exact Jo3 t e w h ⟨by omega,he.2⟩
theorem Jrr{t e:Int}(h:t<0)(he:1<=e): -e<t.tmod e/\t.tmod e<=0/\t<=t.tmod e:=by
 obtain⟨u,rfl⟩:∃u:Int,t= -u:=⟨-t,by omega⟩;rw[Int.neg_tmod];have y:=Int.tmod_lt_of_pos u (show 0<e by omega);have x:0<=u.tmod e:=Int.tmod_nonneg _ (by omega)
 have z:u.tmod e<=u:=by
  rw[Int.tmod_eq_emod_of_nonneg (by omega)];rcases Int.lt_or_le u e with z | z
  · rw[Int.emod_eq_of_lt (by omega) z];omega
  · have:=Int.emod_lt_of_pos u (show 0<e by omega);omega
 omega
def Jxb (w:World) (x:Ending) (w':World):Prop:=∃z:Int,x= .returned (z:Int)/\z<=0/\ -9223372036854775808<=z/\w=w'
theorem Jxc(t e:Int)(w:World)(h: -9223372036854775808<=t/\t<0)(he:1<=e/\e<=9223372036854775807):Cs 126 #[(t:Int),(e:Int)] w (Jxb w):=by
 obtain⟨s,x⟩:=h;obtain⟨e1,e2⟩:=he;have v:e≠0:=by omega
 have r:decide (e<1)=false:=qae (by omega);obtain⟨g1,g2,g3⟩:=Jrr x e1;have y:∀z:Int,z<=0 -> -9223372036854775808<=z ->Jxb w (.returned (z:Int)) w:=fun z a b=>⟨z,rfl,a,b,rfl⟩;have u:=zI y;clear y;go_enter Tryz.func126,Tryz.ntmps126;go_wp2
 all_goals
  go_ret;exact u.out _ (by omega) (by omega)
def Jc5 (now keep ev:Int):Int:=if now<0\/keep<0\/ev<1\/now<keep then 0 else flr (now - keep) ev
theorem J17{now keep ev:Int}(h:now<=9223372036854775807):0<=Jc5 now keep ev/\Jc5 now keep ev<=9223372036854775807:=by
 unfold Jc5;split
 · omega
 · have:=Jjv (t:=now - keep) (e:=ev) (by omega) (by omega)
   omega
theorem J18(now keep ev:Int)(w:World)(hn: -9223372036854775808<=now/\now<=9223372036854775807)(hk: -9223372036854775808<=keep/\keep<=9223372036854775807)(he: -9223372036854775808<=ev/\ev<=9223372036854775807):
  Cs 184 #[(now:Int),(keep:Int),(ev:Int)] w fun x w'=>x= .returned (Jc5 now keep ev:Int)/\w=w':=by
 by_cases u:now<0
 · have y:=zI (show Jc5 now keep ev=0 from qa2 (.inl u))
   go_enter Tryz.func184,Tryz.ntmps184;go_wp2;go_ret;exact⟨Jby y.out.symm,rfl⟩
 · have q:decide (now<0)=false:=qae u
   by_cases s:keep<0
   · have y:=zI (show Jc5 now keep ev=0 from qa2 (.inr (.inl s)))
     go_enter Tryz.func184,Tryz.ntmps184;go_wp2;go_ret;exact⟨Jby y.out.symm,rfl⟩
   · have p:decide (keep<0)=false:=qae s
     by_cases r:ev<1
     · have y:=zI (show Jc5 now keep ev=0 from qa2 (.inr (.inr (.inl r))))
       go_enter Tryz.func184,Tryz.ntmps184;go_wp2;go_ret;exact⟨Jby y.out.symm,rfl⟩
     · have o:decide (ev<1)=false:=qae r
       by_cases n:now<keep
       · have y:=zI (show Jc5 now keep ev=0 from qa2 (.inr (.inr (.inr n))))
         go_enter Tryz.func184,Tryz.ntmps184;go_wp2_with fail
         refine(Jxc (now - keep) ev _ ⟨by omega,by omega⟩ ⟨by omega,he.2⟩).mono ?_;rintro e w1 ⟨z,rfl,k,m,rfl⟩;have v:=zI (show max z 0=0 from by omega);go_wp2;go_ret;exact⟨Jby (by rw[y.out];exact v.out),rfl⟩
       · have y:=zI (show Jc5 now keep ev=flr (now - keep) ev from qav (by omega))
         have l:=Jjv (t:=now - keep) (e:=ev) (by omega) (by omega);have v:=zI (show max (flr (now - keep) ev) 0=flr (now - keep) ev from by omega);clear l;go_enter Tryz.func184,Tryz.ntmps184;go_wp2_with fail
         refine(Jo3 (now - keep) ev _ ⟨by omega,by omega⟩ ⟨by omega,he.2⟩).mono ?_;rintro e w1 ⟨rfl,rfl⟩;go_wp2;go_ret;exact⟨Jby (by rw[y.out];exact v.out),rfl⟩
open Go.ChangeAt Go.ChangeShapes Go.Deep Go.WideShapes
theorem Jjx{z:Int}(h:(Lit.int .i64 z).wf=true): -9223372036854775808<=z/\z<=9223372036854775807:=by
 have:IntKind.i64.min= -9223372036854775808/\IntKind.i64.max=9223372036854775807:=by decide
 simpa[Lit.wf,this.1,this.2] using h
structure Rch where
 now:Int
 nm:ByteArray
 ts:List Ti
 fs:List Int
abbrev rchV (now:Int) (nm:ByteArray) (A:Option Addr) (n c:Nat) (B:Option Addr) (m d:Nat):Value:= .agg #[(now:Int),nm,.slice A n c,.slice B m d]
structure Jef (w:World) (A:Option Addr) (n:Nat) (B:Option Addr) (m:Nat) (r:Rch):Prop where
 ts:Tis w A n r.ts
 fs:Ints w .i64 B m r.fs
 now: -9223372036854775808<=r.now/\r.now<=9223372036854775807
theorem Jef.below{w w':World}{A:Option Addr}{n:Nat}{B:Option Addr}{m:Nat}{r:Rch}(h:Jef w A n B m r)(hb:Below w.heap.size w w'):Jef w' A n B m r:=⟨h.ts.below hb,h.fs.below hb,h.now⟩
def isB (n:Nat) (i:Int):Bool:=decide (0<=i/\i<n)
theorem Jxd{n i:Nat}(h:i<n):isB n i=true:=qan (by omega)
def Rch.nextEv (r:Rch) (i:Nat):Int:=((r.ts[min (i+1) (r.ts.length - 1)]?).map Ti.ev).getD 0
def Rch.from_ (r:Rch) (i:Nat):Int:=
 match r.ts[i]? with
 | none=>0
 | some t=>match r.fs[i]? with
   | none=>Jc5 r.now t.kp (r.nextEv i)
   | some f=>max (Jc5 r.now t.kp (r.nextEv i)) f
def Rch.fromI (r:Rch) (i:Int):Int:=if isB r.ts.length i=true then r.from_ i.toNat else 0
def Rch.start (r:Rch) (i t:Int):Int:=if isB r.ts.length i=true/\0<=t then flrE t ((r.ts[i.toNat]?).map Ti.ev |>.getD 0) else 0
def Rch.has (r:Rch) (i t:Int):Bool:=isB r.ts.length i && decide (0<=t) && decide (r.fromI i<=r.start i t)
theorem Jim(now:Int)(nm:ByteArray)(A:Option Addr)(n c:Nat)(B:Option Addr)(m d:Nat)(i:Int)(w:World):
  Cs 183 #[rchV now nm A n c B m d,(i:Int)] w (RB w (isB n i)):=by
 by_cases y:0<=i
 · have z:=zI (show isB n i=decide (i<n) from by unfold isB;simp[y])
   go_enter Tryz.func183,Tryz.ntmps183;go_wp2;go_ret;exact⟨Jaj z.out.symm,(qaa _ _).alloc (qab _) _⟩
 · have z:=zI (show isB n i=false from qae (by omega))
   have x:decide (0<=i)=false:=qae y;go_enter Tryz.func183,Tryz.ntmps183;go_wp2;go_ret;exact⟨Jaj z.out.symm,(qaa _ _).alloc (qab _) _⟩
theorem Jg1(A:Option Addr)(n c:Nat)(B:Option Addr)(m d:Nat)(r:Rch)(i:Nat)(w:World)(h:Jef w A n B m r)(hn:n<=1000000)(hi:i<n):
  Cs 108 #[rchV r.now r.nm A n c B m d,(i:Int)] w (RB w (r.from_ i:Int)):=by
 have F:=zI (Jxd hi);have R:=h.ts.len;have o:=h.fs.len;have K:i<r.ts.length:=by rw[R];exact hi
 obtain⟨j,H⟩:=exE (min (i+1) (r.ts.length - 1));have K2:j<r.ts.length:=by omega
 have l:=zI (show r.nextEv i=(r.ts[j]'K2).ev from by unfold Rch.nextEv;rw[<- H,qam K2];rfl)
 have k:=zI (show ∀z,r.fs[i]? =none ->r.from_ i=Jc5 r.now (r.ts[i]'K).kp (r.ts[j]'K2).ev\/z=(0:Int) from fun z g=> .inl (by
  unfold Rch.from_;rw[qam K,g,<- l.out]))
 have a:=zI (show ∀f,r.fs[i]? =some f ->r.from_ i=max (Jc5 r.now (r.ts[i]'K).kp (r.ts[j]'K2).ev) f from fun f hf=>by
  unfold Rch.from_;rw[qam K,hf,<- l.out])
 have e3:min ((i:Int)+1) ((n:Int) - 1)=(j:Int):=by omega
 have Z:=zI e3;have E:j<n:=by omega
 clear H e3;have s:Below w.heap.size w (w.alloc (.cells #[(r.now:Int),r.nm,.slice A n c,.slice B m d] 161)):=(qaa _ w).alloc (qab _) _;have b0:=Bx.new w 161 #[(r.now:Int),r.nm,.slice A n c,.slice B m d];go_enter Tryz.func108,Tryz.ntmps108;go_wp2_with fail
 refine(Jim _ _ _ _ _ _ _ _ (i:Int) _).mono ?_;rw[F.out];rintro e w1 ⟨rfl,P⟩;have u:=s.trans (P.mono s.size);have p:=b0.below P;have q0:=p.at_ 0 rfl;have q2:=p.at_ 2 rfl;have q3:=p.at_ 3 rfl;obtain⟨b,off,rfl,D,X⟩:=(h.ts.below u).get K;obtain⟨b',off',e',_,Y⟩:=(h.ts.below u).get K2;cases e'
 have x2:=X.c2;have y1:=Y.c1;have V:=h.ts.ok _ (qal K);have t:=h.ts.ok _ (qal K2);have O:=J17 (now:=r.now) (keep:=(r.ts[i]'K).kp) (ev:=(r.ts[j]'K2).ev) h.now.2;have N:=fun W=>J18 r.now (r.ts[i]'K).kp (r.ts[j]'K2).ev W h.now V.kp t.ev;have q:=u;have U:=zI (h.fs.below u);have M:=zI h.fs.wf;clear h b0 p P s X Y V t;generalize (r.ts[i]'K)=x at*;generalize (r.ts[j]'K2)=y at*;obtain⟨z,g⟩:∃z,Jc5 r.now x.kp y.ev=z:=⟨_,rfl⟩;rw[g] at N O k a;have HZ:=zI g;clear g;have g0:(0:Int)<=(i:Int):=by omega
 have g1:(i:Int)<(n:Int):=by omega
 have g2:(0:Int)<=(j:Int):=by omega
 have g3:(j:Int)<(n:Int):=by omega
 have e1:IntKind.i64.wrap ((i:Int)+1)=(i:Int)+1:=qbd _ (by omega);have e2:IntKind.i64.wrap ((n:Int) - 1)=(n:Int) - 1:=qbd _ (by omega);have e3:=Z.out;go_wp2_with fail
 go_quiet ((go_at_call 184;exact Calls.quiet_of_same ((N _).mono fun _ _ ⟨S,h2⟩=>⟨S,h2.symm⟩)))
 clear e1 e2 e3 Z x2 y1 N;have v:=below_drewN (qaa w1.heap.size w1) nq;have s3:=(v.cell (p:=⟨w.heap.size,3,none⟩) (qbh _ _ q3)).trans q3;have s2:=(v.cell (p:=⟨w.heap.size,2,none⟩) (qbh _ _ q2)).trans q2;have T:=q.trans (v.mono q.size);have G:=zI (U.out.below v);clear q0 q2 q3 v q U;generalize w1.drewN nq=wd at*;have L:=G.out.n_le;unfold maxLen at L;by_cases J:i<m
 · have KF:i<r.fs.length:=by rw[o];exact J
   obtain⟨bf,of,rfl,_,f0⟩:=G.out.get KF;have C:=Jjx (M.out _ (qal KF));have I:=zI (a.out _ (qam KF));generalize (r.fs[i]'KF)=f at*;have g4:(i:Int)<(m:Int):=by omega
   go_wp2;go_ret;exact⟨Jby (by rw[I.out]),T⟩
 · have I:=zI (show r.from_ i=z from by
    rcases k.out 1 (qbg (by rw[o];omega)) with S | S
    · exact S
    · omega)
   have hd:decide ((i:Int)<(m:Int))=false:=qae (by omega);go_wp2;go_ret;exact⟨Jby I.out.symm,T⟩
end Go.Proofs.YtglmhddbhhcjdaaGreatDoor
