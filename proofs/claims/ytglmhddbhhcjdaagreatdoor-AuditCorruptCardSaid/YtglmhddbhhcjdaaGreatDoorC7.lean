/- Laws that the walk of the last text wants. -/
import Derived.Laws.AppendOwnNone
import Derived.Test.YtglmhddbhhcjdaaGreatDoorC3
import Derived.Test.YtglmhddbhhcjdaaGreatDoorC4
import Derived.Test.YtglmhddbhhcjdaaGreatDoorC5
import Derived.Test.YtglmhddbhhcjdaaGreatDoorC6
set_option maxRecDepth 100000
set_option linter.unusedSimpArgs false
set_option maxHeartbeats 4000000
namespace Go.Proofs.YtglmhddbhhcjdaaGreatDoor
open Go.RowKit Go.Maps
theorem Jb4{H:Type}{P:Program}{k:TypeId}{R:Value ->Option (DataW H×List MemPlace)}{w:World}{b n:Nat}{D:DataW H}(h:w.ownsMap P k R b n D):w.ownsMap P k R b (Maps.size D) D:=by
 obtain⟨es,clock,y,x,v,z⟩:=h;refine⟨es,clock,y,x,?_,z⟩;rw[z,Maps.size_eq,length_sorted];simp
theorem Jab{a b:World}(h:Below a.heap.size a b)(row:Option Nat):a.grownBy b row:=⟨h.os,h.tape,h.output,h.size,fun i hi _=>h.block i hi⟩
theorem J6x(w:World):(zeroValue 140).run Tryz.prog w= .ok Ag.zero.val w:=by kernel_rfl
structure MapAt (w:World) (mm:Nat) (l:List Rc):Prop where
 own:∃D,w.ownsMap Tryz.prog 289 Jc3 mm l.length D/\Rep D l
theorem MapAt.mk'{w:World}{mm n:Nat}{D:DataW Unit}{l:List Rc}(h:w.ownsMap Tryz.prog 289 Jc3 mm n D)(hr:Rep D l):MapAt w mm l:=
 ⟨D,by have:=Jb4 h;rwa [hr.size] at this,hr⟩
theorem MapAt.lt{w:World}{mm:Nat}{l:List Rc}(h:MapAt w mm l):mm<w.heap.size:=by obtain⟨D,z,_⟩:=h.own;exact z.lt
theorem MapAt.grown{w w':World}{mm:Nat}{l:List Rc}{row:Option Nat}(h:MapAt w mm l)(hg:w.grownBy w' row)(hne:some mm≠row):MapAt w' mm l:=by
 obtain⟨D,z,y⟩:=h.own;exact⟨D,z.kept hg hne,y⟩
theorem MapAt.below{w w':World}{mm:Nat}{l:List Rc}(h:MapAt w mm l)(hb:Below w.heap.size w w'):MapAt w' mm l:=h.grown (Jab hb none) (by simp)
structure Jan (w:World) (g mm:Nat) (ev:Int) (l:List Rc):Prop where
 blk:w.heap[g]? =some (.cells #[(ev:Int),.map (some mm)] 257 (0,0))
 map:MapAt w mm l
section
variable {w w':World} {g mm:Nat} {ev:Int} {l:List Rc}
theorem Jan.lt(h:Jan w g mm ev l):g<w.heap.size:=qcb h.blk
theorem Jan.cells(h:Jan w g mm ev l):w.cell? ⟨g,0,none⟩=some (.int .i64 ev)/\w.cell? ⟨g,1,none⟩=some (.map (some mm)):=
 ⟨qb4 w g 0 _ _ _ h.blk,qb4 w g 1 _ _ _ h.blk⟩
theorem Jan.ne(h:Jan w g mm ev l):g≠mm:=by
 intro e;obtain⟨D,⟨es,c,z,_⟩,_⟩:=h.map.own;have:=h.blk;rw[e,z] at this;cases this
theorem Jan.below(h:Jan w g mm ev l)(hb:Below w.heap.size w w'):Jan w' g mm ev l:=⟨(hb.block g h.lt).trans h.blk,h.map.below hb⟩
theorem Jan.grown(h:Jan w g mm ev l){row:Option Nat}(hg:w.grownBy w' row)(h1:some g≠row)(h2:some mm≠row):Jan w' g mm ev l:=
 ⟨(hg.block g h.lt h1).trans h.blk,h.map.grown hg h2⟩
theorem Jan.turned(h:Jan w g mm ev l)(hg:w.grownBy w' (some mm)){k:List Rc}(hm:MapAt w' mm k):Jan w' g mm ev k:=
 ⟨(hg.block g h.lt (fun e=>h.ne (by injection e))).trans h.blk,hm⟩
end
theorem Jkk{w:World}{g mm:Nat}{ev:Int}{l:List Rc}(h:Jan w g mm ev l):
  Cs 203 #[g] w fun e w'=>e= .returned false/\w=w':=by
 obtain⟨c0,c1⟩:=h.cells;have z:=fun W=>run_eql_map_nil (P:=Tryz.prog) W _ _ _ (some mm) Tryz.underlying255;go_enter Tryz.func203,Tryz.ntmps203;go_wp2;go_ret;exact⟨rfl,rfl⟩
theorem J26(n:Int)(w:World):Cs 98 #[(n:Int)] w fun e w'=>∃g mm,e= .returned (g:Nat)/\Jan w' g mm (max n 1) []/\Below w.heap.size w w'/\w.heap.size<=g/\w.heap.size<=mm:=by
 have z:=@run_makeMap Tryz.prog;go_enter Tryz.func98,Tryz.ntmps98;go_wp2;go_ret;refine⟨w.heap.size+1,w.heap.size,rfl,⟨by have:=qci (w.alloc (.map #[] 0)) (.cells #[(max n 1:Int),.map (some w.heap.size)] 257);simpa using this,?_⟩,((qaa _ _).alloc (by omega) _).alloc (by simp) _,by omega,by omega⟩;exact⟨_,(World.ownsMap_made w _ _ _).alloc _,Rep.nil⟩
theorem J27{w:World}{g mm:Nat}{ev:Int}{l:List Rc}(h:Jan w g mm ev l):
  Cs 89 #[g] w (RS w (l.length:Int)):=by
 obtain⟨c0,c1⟩:=h.cells;obtain⟨D,z,y⟩:=h.map.own
 have x:∀ty,(Builtin.len_ #[255] ty #[.map (some mm)]).run Tryz.prog w= .ok (l.length:Int) w:=fun ty=>by
  rw[z.len Tryz.underlying255 ty,y.size]
 go_enter Tryz.func89,Tryz.ntmps89;go_wp2;go_ret;exact⟨rfl,rfl⟩
def onB (t e:Int):Bool:=decide (1<=e/\t.tmod e=0)
theorem Jl8(t e:Int)(w:World)(_: -9223372036854775808<=t/\t<=9223372036854775807)(_: -9223372036854775808<=e/\e<=9223372036854775807):Cs 96 #[(t:Int),(e:Int)] w fun x w'=>x= .returned (onB t e)/\w=w':=by
 by_cases y:1<=e
 · have v:e≠0:=by omega
   have z:=zI (show onB t e=decide (t.tmod e=0) from by unfold onB;simp[y]);go_enter Tryz.func96,Tryz.ntmps96;go_wp2;go_ret;exact⟨Jal (by rw[z.out];first | rfl | simp | (rw[qcg];simp)),rfl⟩
 · have z:=zI (show onB t e=false from qae (by omega))
   have u:decide (1<=e)=false:=qae y;go_enter Tryz.func96,Tryz.ntmps96;go_wp2;go_ret;exact⟨Jal z.out.symm,rfl⟩
theorem one_cell{w:World}{b:Nat}{s:ByteArray}(h:w.cell? ⟨b,0,none⟩=some (.string s)):∀i (hi:i<[s].length),w.cell? ⟨b,0+i,none⟩=some (.string ([s][i])):=by
 intro i hi;have:i=0:=by simpa using hi
 subst this;exact h
theorem Jfr{w:World}{o:Obj}{a:Addr}{v:Value}(h:w.cell? a=some v):(w.alloc o).cell? a=some v:=(qbl w o none).cell h (by simp)
def Jau (ev:Int) (r:Rc):Bool:=Jae r.nm.toList && decide (0<=r.st) && onB r.st ev && Jbx r.ag
end Go.Proofs.YtglmhddbhhcjdaaGreatDoor
namespace Go.Proofs.YtglmhddbhhcjdaaGreatDoor
open Go.RowKit
def flr (t e:Int):Int:=t - t % e
theorem Jkl{t e:Int}(h:0<=t)(he:1<=e):0<=flr t e/\flr t e<=t:=by
 have y:=Int.emod_nonneg t (show e≠0 by omega)
 have x:t % e<=t:=by
  rcases Int.lt_or_le t e with z | z
  · rw[Int.emod_eq_of_lt h z];omega
  · have:=Int.emod_lt_of_pos t (show 0<e by omega);omega
 unfold flr;omega
theorem Jjp{t:Int}(h:0<=t)(e:Int):t.tmod e=t % e:=Int.tmod_eq_emod_of_nonneg h
theorem Jpg(t e:Int)(w:World)(h:0<=t/\t<=9223372036854775807)(he:1<=e/\e<=9223372036854775807):Cs 126 #[(t:Int),(e:Int)] w fun x w'=>x= .returned (flr t e:Int)/\w=w':=by
 obtain⟨y,r⟩:=h;obtain⟨e1,e2⟩:=he;have z:e≠0:=by omega
 have g1:=Int.emod_nonneg t z;have g2:=Jkl y e1;have v:=zI (Jjp y e);have q:decide (e<1)=false:=qae (by omega);have u:decide (t % e<0)=false:=qae (by omega);have s:decide (t.tmod e<0)=false:=by rw[v.out];exact u
 unfold flr at g2;obtain⟨g3,g4⟩:=g2;go_enter Tryz.func126,Tryz.ntmps126;go_wp2;go_ret;exact⟨Jby (by unfold flr;first | rfl | (rw[v.out])),rfl⟩
theorem Jkm(a b:Int)(w:World)(ha:1<=a/\a<=9223372036854775807)(hb:0<=b/\b<=9223372036854775807):Cs 257 #[(a:Int),(b:Int)] w fun x w'=>x= .returned (decide (b % a=0))/\w=w':=by
 obtain⟨v,u⟩:=ha;obtain⟨e1,e2⟩:=hb;have y:a≠0:=by omega
 have z:=zI (Jjp e1 a);go_enter Tryz.func257,Tryz.ntmps257;go_wp2;go_ret;exact⟨Jal (by first | rfl | (rw[z.out];rfl) | (rw[qcg];simp) | (rw[z.out,qcg];simp)),rfl⟩
def flrE (t e:Int):Int:=if e<1 then t else flr t e
theorem Jvx(t e:Int)(w:World)(h:0<=t/\t<=9223372036854775807)(he: -9223372036854775808<=e/\e<=9223372036854775807):Cs 126 #[(t:Int),(e:Int)] w fun x w'=>x= .returned (flrE t e:Int)/\w=w':=by
 by_cases z:e<1
 · have y:=zI (show flrE t e=t from qa0 z)
   go_enter Tryz.func126,Tryz.ntmps126;go_wp2;go_ret;exact⟨Jby y.out.symm,rfl⟩
 · rw[show flrE t e=flr t e from qay z]
   exact Jpg t e w h ⟨by omega,he.2⟩
theorem Jr4{t e:Int}(h:t<0)(he:1<=e): -e<t.tmod e/\t.tmod e<=0/\t<=t.tmod e:=by
 obtain⟨u,rfl⟩:∃u:Int,t= -u:=⟨-t,by omega⟩;rw[Int.neg_tmod];have y:=Int.tmod_lt_of_pos u (show 0<e by omega);have x:0<=u.tmod e:=Int.tmod_nonneg _ (by omega)
 have z:u.tmod e<=u:=by
  rw[Int.tmod_eq_emod_of_nonneg (by omega)];rcases Int.lt_or_le u e with z | z
  · rw[Int.emod_eq_of_lt (by omega) z];omega
  · have:=Int.emod_lt_of_pos u (show 0<e by omega);omega
 omega
def Jx6 (w:World) (x:Ending) (w':World):Prop:=∃z:Int,x= .returned (z:Int)/\z<=0/\ -9223372036854775808<=z/\w=w'
theorem Jx7(t e:Int)(w:World)(h: -9223372036854775808<=t/\t<0)(he:1<=e/\e<=9223372036854775807):Cs 126 #[(t:Int),(e:Int)] w (Jx6 w):=by
 obtain⟨s,x⟩:=h;obtain⟨e1,e2⟩:=he;have v:e≠0:=by omega
 have r:decide (e<1)=false:=qae (by omega);obtain⟨g1,g2,g3⟩:=Jr4 x e1;have y:∀z:Int,z<=0 -> -9223372036854775808<=z ->Jx6 w (.returned (z:Int)) w:=fun z a b=>⟨z,rfl,a,b,rfl⟩;have u:=zI y;clear y;go_enter Tryz.func126,Tryz.ntmps126;go_wp2
 all_goals
  go_ret;exact u.out _ (by omega) (by omega)
def Je4 (now keep ev:Int):Int:=if now<0\/keep<0\/ev<1\/now<keep then 0 else flr (now - keep) ev
theorem J28{now keep ev:Int}(h:now<=9223372036854775807):0<=Je4 now keep ev/\Je4 now keep ev<=9223372036854775807:=by
 unfold Je4;split
 · omega
 · have:=Jkl (t:=now - keep) (e:=ev) (by omega) (by omega)
   omega
theorem J29(now keep ev:Int)(w:World)(hn: -9223372036854775808<=now/\now<=9223372036854775807)(hk: -9223372036854775808<=keep/\keep<=9223372036854775807)(he: -9223372036854775808<=ev/\ev<=9223372036854775807):
  Cs 184 #[(now:Int),(keep:Int),(ev:Int)] w fun x w'=>x= .returned (Je4 now keep ev:Int)/\w=w':=by
 by_cases u:now<0
 · have y:=zI (show Je4 now keep ev=0 from qa0 (.inl u))
   go_enter Tryz.func184,Tryz.ntmps184;go_wp2;go_ret;exact⟨Jby y.out.symm,rfl⟩
 · have q:decide (now<0)=false:=qae u
   by_cases s:keep<0
   · have y:=zI (show Je4 now keep ev=0 from qa0 (.inr (.inl s)))
     go_enter Tryz.func184,Tryz.ntmps184;go_wp2;go_ret;exact⟨Jby y.out.symm,rfl⟩
   · have p:decide (keep<0)=false:=qae s
     by_cases r:ev<1
     · have y:=zI (show Je4 now keep ev=0 from qa0 (.inr (.inr (.inl r))))
       go_enter Tryz.func184,Tryz.ntmps184;go_wp2;go_ret;exact⟨Jby y.out.symm,rfl⟩
     · have o:decide (ev<1)=false:=qae r
       by_cases n:now<keep
       · have y:=zI (show Je4 now keep ev=0 from qa0 (.inr (.inr (.inr n))))
         go_enter Tryz.func184,Tryz.ntmps184;go_wp2_with fail
         refine(Jx7 (now - keep) ev _ ⟨by omega,by omega⟩ ⟨by omega,he.2⟩).mono ?_;rintro e w1 ⟨z,rfl,k,m,rfl⟩;have v:=zI (show max z 0=0 from by omega);go_wp2;go_ret;exact⟨Jby (by rw[y.out];exact v.out),rfl⟩
       · have y:=zI (show Je4 now keep ev=flr (now - keep) ev from qay (by omega))
         have l:=Jkl (t:=now - keep) (e:=ev) (by omega) (by omega);have v:=zI (show max (flr (now - keep) ev) 0=flr (now - keep) ev from by omega);clear l;go_enter Tryz.func184,Tryz.ntmps184;go_wp2_with fail
         refine(Jpg (now - keep) ev _ ⟨by omega,by omega⟩ ⟨by omega,he.2⟩).mono ?_;rintro e w1 ⟨rfl,rfl⟩;go_wp2;go_ret;exact⟨Jby (by rw[y.out];exact v.out),rfl⟩
open Go.ChangeAt Go.ChangeShapes Go.Deep Go.WideShapes
theorem Jit{z:Int}(h:(Lit.int .i64 z).wf=true): -9223372036854775808<=z/\z<=9223372036854775807:=by
 have:IntKind.i64.min= -9223372036854775808/\IntKind.i64.max=9223372036854775807:=by decide
 simpa[Lit.wf,this.1,this.2] using h
structure Rch where
 now:Int
 nm:ByteArray
 ts:List Ti
 fs:List Int
abbrev rchV (now:Int) (nm:ByteArray) (A:Option Addr) (n c:Nat) (B:Option Addr) (m d:Nat):Value:= .agg #[(now:Int),nm,.slice A n c,.slice B m d]
structure Jem (w:World) (A:Option Addr) (n:Nat) (B:Option Addr) (m:Nat) (r:Rch):Prop where
 ts:Tis w A n r.ts
 fs:Ints w .i64 B m r.fs
 now: -9223372036854775808<=r.now/\r.now<=9223372036854775807
theorem Jem.below{w w':World}{A:Option Addr}{n:Nat}{B:Option Addr}{m:Nat}{r:Rch}(h:Jem w A n B m r)(hb:Below w.heap.size w w'):Jem w' A n B m r:=⟨h.ts.below hb,h.fs.below hb,h.now⟩
def isB (n:Nat) (i:Int):Bool:=decide (0<=i/\i<n)
theorem Jr5{n i:Nat}(h:i<n):isB n i=true:=qaj (by omega)
def Rch.nextEv (r:Rch) (i:Nat):Int:=((r.ts[min (i+1) (r.ts.length - 1)]?).map Ti.ev).getD 0
def Rch.from_ (r:Rch) (i:Nat):Int:=
 match r.ts[i]? with
 | none=>0
 | some t=>match r.fs[i]? with
   | none=>Je4 r.now t.kp (r.nextEv i)
   | some f=>max (Je4 r.now t.kp (r.nextEv i)) f
def Rch.fromI (r:Rch) (i:Int):Int:=if isB r.ts.length i=true then r.from_ i.toNat else 0
def Rch.start (r:Rch) (i t:Int):Int:=if isB r.ts.length i=true/\0<=t then flrE t ((r.ts[i.toNat]?).map Ti.ev |>.getD 0) else 0
def Rch.has (r:Rch) (i t:Int):Bool:=isB r.ts.length i && decide (0<=t) && decide (r.fromI i<=r.start i t)
theorem Jiu(now:Int)(nm:ByteArray)(A:Option Addr)(n c:Nat)(B:Option Addr)(m d:Nat)(i:Int)(w:World):
  Cs 183 #[rchV now nm A n c B m d,(i:Int)] w (RB w (isB n i)):=by
 by_cases y:0<=i
 · have z:=zI (show isB n i=decide (i<n) from by unfold isB;simp[y])
   go_enter Tryz.func183,Tryz.ntmps183;go_wp2;go_ret;exact⟨Jal z.out.symm,(qaa _ _).alloc (qab _) _⟩
 · have z:=zI (show isB n i=false from qae (by omega))
   have x:decide (0<=i)=false:=qae y;go_enter Tryz.func183,Tryz.ntmps183;go_wp2;go_ret;exact⟨Jal z.out.symm,(qaa _ _).alloc (qab _) _⟩
theorem Jg8(A:Option Addr)(n c:Nat)(B:Option Addr)(m d:Nat)(r:Rch)(i:Nat)(w:World)(h:Jem w A n B m r)(hn:n<=1000000)(hi:i<n):
  Cs 108 #[rchV r.now r.nm A n c B m d,(i:Int)] w (RB w (r.from_ i:Int)):=by
 have F:=zI (Jr5 hi);have R:=h.ts.len;have o:=h.fs.len;have K:i<r.ts.length:=by rw[R];exact hi
 obtain⟨j,H⟩:=exE (min (i+1) (r.ts.length - 1));have K2:j<r.ts.length:=by omega
 have l:=zI (show r.nextEv i=(r.ts[j]'K2).ev from by unfold Rch.nextEv;rw[<- H,qah K2];rfl)
 have k:=zI (show ∀z,r.fs[i]? =none ->r.from_ i=Je4 r.now (r.ts[i]'K).kp (r.ts[j]'K2).ev\/z=(0:Int) from fun z g=> .inl (by
  unfold Rch.from_;rw[qah K,g,<- l.out]))
 have a:=zI (show ∀f,r.fs[i]? =some f ->r.from_ i=max (Je4 r.now (r.ts[i]'K).kp (r.ts[j]'K2).ev) f from fun f hf=>by
  unfold Rch.from_;rw[qah K,hf,<- l.out])
 have e3:min ((i:Int)+1) ((n:Int) - 1)=(j:Int):=by omega
 have Z:=zI e3;have E:j<n:=by omega
 clear H e3;have s:Below w.heap.size w (w.alloc (.cells #[(r.now:Int),r.nm,.slice A n c,.slice B m d] 161)):=(qaa _ w).alloc (qab _) _;have b0:=Bx.new w 161 #[(r.now:Int),r.nm,.slice A n c,.slice B m d];go_enter Tryz.func108,Tryz.ntmps108;go_wp2_with fail
 refine(Jiu _ _ _ _ _ _ _ _ (i:Int) _).mono ?_;rw[F.out];rintro e w1 ⟨rfl,P⟩;have u:=s.trans (P.mono s.size);have p:=b0.below P;have q0:=p.at_ 0 rfl;have q2:=p.at_ 2 rfl;have q3:=p.at_ 3 rfl;obtain⟨b,off,rfl,D,X⟩:=(h.ts.below u).get K;obtain⟨b',off',e',_,Y⟩:=(h.ts.below u).get K2;cases e'
 have x2:=X.c2;have y1:=Y.c1;have V:=h.ts.ok _ (qan K);have t:=h.ts.ok _ (qan K2);have O:=J28 (now:=r.now) (keep:=(r.ts[i]'K).kp) (ev:=(r.ts[j]'K2).ev) h.now.2;have N:=fun W=>J29 r.now (r.ts[i]'K).kp (r.ts[j]'K2).ev W h.now V.kp t.ev;have q:=u;have U:=zI (h.fs.below u);have M:=zI h.fs.wf;clear h b0 p P s X Y V t;generalize (r.ts[i]'K)=x at*;generalize (r.ts[j]'K2)=y at*;obtain⟨z,g⟩:∃z,Je4 r.now x.kp y.ev=z:=⟨_,rfl⟩;rw[g] at N O k a;have HZ:=zI g;clear g;have g0:(0:Int)<=(i:Int):=by omega
 have g1:(i:Int)<(n:Int):=by omega
 have g2:(0:Int)<=(j:Int):=by omega
 have g3:(j:Int)<(n:Int):=by omega
 have e1:IntKind.i64.wrap ((i:Int)+1)=(i:Int)+1:=qbd _ (by omega);have e2:IntKind.i64.wrap ((n:Int) - 1)=(n:Int) - 1:=qbd _ (by omega);have e3:=Z.out;go_wp2_with fail
 go_quiet ((go_at_call 184;exact qch ((N _).mono fun _ _ ⟨S,h2⟩=>⟨S,h2.symm⟩)))
 clear e1 e2 e3 Z x2 y1 N;have v:=below_drewN (qaa w1.heap.size w1) nq;have s3:=(v.cell (p:=⟨w.heap.size,3,none⟩) (qba _ _ q3)).trans q3;have s2:=(v.cell (p:=⟨w.heap.size,2,none⟩) (qba _ _ q2)).trans q2;have T:=q.trans (v.mono q.size);have G:=zI (U.out.below v);clear q0 q2 q3 v q U;generalize w1.drewN nq=wd at*;have L:=G.out.n_le;unfold maxLen at L;by_cases J:i<m
 · have KF:i<r.fs.length:=by rw[o];exact J
   obtain⟨bf,of,rfl,_,f0⟩:=G.out.get KF;have C:=Jit (M.out _ (qan KF));have I:=zI (a.out _ (qah KF));generalize (r.fs[i]'KF)=f at*;have g4:(i:Int)<(m:Int):=by omega
   go_wp2;go_ret;exact⟨Jby (by rw[I.out]),T⟩
 · have I:=zI (show r.from_ i=z from by
    rcases k.out 1 (qbj (by rw[o];omega)) with S | S
    · exact S
    · omega)
   have hd:decide ((i:Int)<(m:Int))=false:=qae (by omega);go_wp2;go_ret;exact⟨Jby I.out.symm,T⟩
end Go.Proofs.YtglmhddbhhcjdaaGreatDoor
namespace Go.Proofs.YtglmhddbhhcjdaaGreatDoor.Py
open Go.RowKit
structure Jbb (w:World) (g:Nat) (at_:Nat) (ws:List Wd):Prop where
 lt:g<w.heap.size
 few:ws.length<=16004000
 le:at_<=ws.length
 c0:w.cell? ⟨g,0,none⟩=some (.int .i64 at_)
 f0:w.frozen? ⟨g,0,none⟩=false
 c1:∃A c,w.cell? ⟨g,1,none⟩=some (.slice A ws.length c)/\w.frozen? ⟨g,1,none⟩=false/\Sl w A (wrow ws)/\ws.length<=c/\(∀b off,A=some ⟨b,off,none⟩ ->b≠g)
theorem Jbb.f1'{w:World}{g a:Nat}{ws:List Wd}(h:Jbb w g a ws):w.frozen? ⟨g,1,none⟩=false:=by obtain⟨_,_,_,z,_⟩:=h.c1;exact z
theorem Jbb.below{w w':World}{g a:Nat}{ws:List Wd}(h:Jbb w g a ws)(hb:Below w.heap.size w w'):Jbb w' g a ws:=by
 obtain⟨A,c,z,y,x,v,u⟩:=h.c1
 exact⟨qar h.lt hb.size,h.few,h.le,(hb.cell (p:=⟨g,0,none⟩) h.lt).trans h.c0,(hb.frozen (p:=⟨g,0,none⟩) h.lt).trans h.f0,
  A,c,(hb.cell (p:=⟨g,1,none⟩) h.lt).trans z,(hb.frozen (p:=⟨g,1,none⟩) h.lt).trans y,x.below hb,v,u⟩
def J6y (s:ByteArray) (w:World) (e:Ending) (w':World):Prop:=
 Below w.heap.size w w'/\
 ((4000<s.size/\e= .returned (.tuple #[.pointer none,(2:Int),(0:Int)]))\/
  (s.size<=4000/\cutE 1 (Jb7 s)≠0/\e= .returned (.tuple #[.pointer none,(22:Int),(cutE 1 (Jb7 s):Int)]))\/
  (s.size<=4000/\cutE 1 (Jb7 s)=0/\∃g,w.heap.size<=g/\e= .returned (.tuple #[(g:Nat),(0:Int),(0:Int)])/\Jbb w' g 0 (cutW 1 (Jb7 s))))
theorem Jas{a b c:World}{row:Option Nat}(h:a.grownBy b row)(k:b.grownBy c row):a.grownBy c row:=
 ⟨k.os.trans h.os,k.tape.trans h.tape,k.output.trans h.output,qax h.size k.size,fun i hi hne=>(k.block i (qar hi h.size) hne).trans (h.block i hi hne)⟩
theorem Jab{a b:World}(h:Below a.heap.size a b)(row:Option Nat):a.grownBy b row:=⟨h.os,h.tape,h.output,h.size,fun i hi _=>h.block i hi⟩
structure Jph (w2:World) (g:Nat) (ws:List Wd) (v:Value) (wr:World):Prop where
 gr:w2.grownBy wr (some g)
 c0:wr.cell? ⟨g,0,none⟩=some (.int .i64 0)
 f0:wr.frozen? ⟨g,0,none⟩=false
 c1:wr.cell? ⟨g,1,none⟩=some v
 f1:wr.frozen? ⟨g,1,none⟩=false
 own:wr.ownsRow w2.heap.size 266 3 v ws.length (wrow ws)
theorem Jph.below{w2:World}{g:Nat}{ws:List Wd}{v:Value}{wr w':World}(h:Jph w2 g ws v wr)(hg:g<w2.heap.size)(hb:Below wr.heap.size wr w'):Jph w2 g ws v w':=by
 have z:g<wr.heap.size:=qar hg h.gr.size
 exact⟨Jas h.gr (Jab hb _),(hb.cell (p:=⟨g,0,none⟩) z).trans h.c0,(hb.frozen (p:=⟨g,0,none⟩) z).trans h.f0,
  (hb.cell (p:=⟨g,1,none⟩) z).trans h.c1,(hb.frozen (p:=⟨g,1,none⟩) z).trans h.f1,own_below h.own hb⟩
theorem Jph.put{w2:World}{g:Nat}{ws ws':List Wd}{v v':Value}{wr w3:World}(h:Jph w2 g ws v wr)(hg:g<w2.heap.size)(hgr:wr.grownBy w3 v.ownBlock)(hown:w3.ownsRow w2.heap.size 266 3 v' ws'.length (wrow ws')):Jph w2 g ws' v' (w3.setCell ⟨g,1,none⟩ v'):=by
 have y:g<wr.heap.size:=qar hg h.gr.size;have x:some g≠Value.ownBlock _:=fun e=>by have:=(h.own.lt g e.symm).1;omega
 have z:=hgr.block g y x;have e1:w3.cell? ⟨g,1,none⟩=some v:=(qbk (a:=⟨g,1,none⟩) z).trans h.c1;refine⟨⟨hgr.os.trans h.gr.os,hgr.tape.trans h.gr.tape,hgr.output.trans h.gr.output,by have:=h.gr.size;have:=hgr.size;simp;omega,fun k hk hkn=> ?_⟩,?_,?_,?_,?_,?_⟩
 · rw[qdi _ _ _ _ (fun e=>hkn (by rw[e])),hgr.block k (qar hk h.gr.size) (fun e=>by have:=(h.own.lt k e.symm).1;omega)]
   exact h.gr.block k hk hkn
 · rw[qbh _ _ _ _ (by simp)];exact(qbk (a:=⟨g,0,none⟩) z).trans h.c0
 · rw[qbu];exact(qco (a:=⟨g,0,none⟩) z).trans h.f0
 · exact qc6 _ _ _ e1
 · rw[qbu];exact(qco (a:=⟨g,1,none⟩) z).trans h.f1
 · exact qc5 hown (fun e=>by have:=(hown.lt g e).1;omega) v'
theorem J3a(l:List Wd):∀u∈wrow l,u.oneCell'=true:=by
 intro u y;obtain⟨x,_,z⟩:=qcs.1 y;simp[Jht] at z;rcases z with rfl | rfl | rfl<;>rfl
theorem Jtv{L:List (List UInt8)}{k:Nat}{x:List UInt8}(h:L.take (k+1)=L.take k++[x])(ha:∀l∈L.take k,l.all okB=true)(hx:x.all okB=true):∀l∈L.take (k+1),l.all okB=true:=by
 rw[h];intro l z;rcases qbe.1 z with z | z
 · exact ha l z
 · simp only[qa1] at z;subst z;exact hx
theorem Jcv(s:ByteArray)(w:World)(hs:s.size<=281474976710656):Cs 82 #[s] w fun e w'=>e= .returned s/\Below w.heap.size w w':=by
 go_enter Tryz.func82,Tryz.ntmps82
 go_wp2_with (first
   | (go_at_call 156;refine(Tryz.stringslite_Clone s _ (by omega)).mono ?_;rintro e w1 ⟨rfl,z⟩))
 go_ret;exact⟨rfl,z⟩
theorem J6z(s:ByteArray)(w:World)(hs:s.size<=maxLen)(hm:∃m:Int,w.cell? ⟨0,0,none⟩=some (.int .i64 m)):
  Cs 163 #[s] w (J6y s w):=by
 unfold maxLen at hs;by_cases h4:4000<s.size
 · go_enter Tryz.func163,Tryz.ntmps163
   go_wp2_with fail
   go_ret3
   exact⟨qaa _ _,.inl ⟨h4,rfl⟩⟩
 · obtain ⟨i0,hi,Hg,Hh,Hi⟩:=qb2 Jkf
   obtain⟨mx,N⟩:=hm;have G:0<w.heap.size:=by have:=block_lt_of_cell N;simpa using this
   go_enter Tryz.func163,Tryz.ntmps163;have F:(w.alloc (.cells #[(0:Int),()] 364)).cell? ⟨0,0,none⟩=some (.int .i64 mx):=(qb0 _ 0 0 G).trans N
   go_wp2_with (first
    | (go_at_call 82;refine(Jcv s _ (by omega)).mono ?_;rintro e w1 ⟨rfl,t⟩)
    | (go_at_call 250;refine(Tryz.strings_Split s ⟨#[10]⟩ mx w1 (by omega) (by first | exact(t.cell (p:=⟨0,0,none⟩) (by simp)).trans F) (by decide)).mono ?_;rintro e w2 ⟨rfl,z⟩;replace z:=zI z))
   obtain⟨LS,o⟩:=exE (Jkh s);have E:(Lib.countB s ⟨#[10]⟩+1:Nat)=LS.length:=by rw[o,Jpf]
   have Hj:∀l∈LS,l.size<=4000:=fun l hl=>by rw[o] at hl;have:=Jl6 s l hl;omega
   have D:LS.length<=4001:=by have:=Jx5 s;rw[o];omega
   replace z:=z.out
   rw[show Lib.splitB ⟨#[10]⟩ 0 (Lib.countB s ⟨#[10]⟩) s=LS from o.symm] at z;have C:=zI o;clear o;obtain⟨lb,V⟩:=exE w1.heap.size;obtain⟨g,n⟩:=exE w.heap.size;have Hs:g<lb:=by have:=t.size;simp at this;omega
   have Hk:w2.heap.size=lb+1:=by rw[z];simp[V]
   have B:Below g w w2:=by rw[z,n];exact(((qaa _ w).alloc (qab _) _).trans (t.mono (by simp))).alloc (by omega) _
   have I0:Jph w2 g [] () w2:=by
    have f:g<w2.heap.size:=(by omega);refine⟨⟨rfl,rfl,rfl,qab _,fun _ _ _=>rfl⟩,?_,?_,?_,?_,qaz _ _ _ _⟩
    · rw[z,qb0 _ _ _ (by omega),t.cell (by simp[n]),qcm _ _ _ _ n];rfl
    · rw[z,World.frozen?_alloc_past _ _ _ (by omega),t.frozen (by simp[n]),qcp _ _ _ _ n]
    · rw[z,qb0 _ _ _ (by omega),t.cell (by simp[n]),qcm _ _ _ _ n];rfl
    · rw[z,World.frozen?_alloc_past _ _ _ (by omega),t.frozen (by simp[n]),qcp _ _ _ _ n]
   have U:∀j (h:j<LS.length),w2.cell? ⟨lb,j,none⟩=some (.string LS[j]):=fun j h=>by
    rw[z,qcm _ _ _ _ V];simp[h]
   rw[<- V,<- n];have T:g<w2.heap.size:=by omega
   have d:Below w.heap.size w w2:=by rw[<- n];exact B
   have A:w.heap.size<=g:=by omega
   clear t z Hk F N;rw[E,show((Lib.countB s ⟨#[10]⟩:Nat):Int)+1=(LS.length:Int) from by omega];clear E V n;have Hr:=zI D;go_loopw [19] (fun i wr=>∃ (k:Nat) (v:Value),k<=LS.length/\i= .int .i64 k/\Jph w2 g (cutW 1 ((LS.map ByteArray.toList).take k)) v wr/\(∀l∈(LS.map ByteArray.toList).take k,l.all okB=true)/\(cutW 1 ((LS.map ByteArray.toList).take k)).length<=k*4000) (fun i _=>LS.length - (intOf i).toNat)
   case atStart=>exact⟨0,_,qaq _,rfl,I0,by simp,by simp[cutW]⟩
   case round=>
    obtain⟨k,v,hk,rfl,y,O,c⟩:=hrel;have HA:=zI O;clear O;by_cases f:k<LS.length
    · have Z :=(y.gr.cell (U k f) (by simp;omega))
      have hJ:=Hj _ (qan f);obtain⟨ln,M⟩:=exE (LS[k]);rw[<- M] at Z hJ;have Ha:=zI M;clear M;obtain⟨A1,c1,rfl,_,_⟩:=own_slice y.own;have y0:=y.c0;have y1:=y.c1;have y3:=y.f1
      have L:(LS.map ByteArray.toList).take (k+1)=(LS.map ByteArray.toList).take k++[ln.toList]:=by
       rw[qam (by simpa using f),Ha.out];simp
      have K:((LS.map ByteArray.toList).take k).length=k:=by simp;omega
      have hW:cutW 1 ((LS.map ByteArray.toList).take (k+1))=cutW 1 ((LS.map ByteArray.toList).take k)++Jah (k+1) ln.toList:=by
       rw[L,Jkg,K];simp[cutW,Int.add_comm]
      have Hl:=Jnm (k+1) ln.toList;rw[Jac] at Hl;have HW:=zI hW;have Hb:=zI L;have Hm:=zI K;clear hW L K;obtain⟨ws,J⟩:=exE (cutW 1 ((LS.map ByteArray.toList).take k));have Ht:=zI J;rw[<- J] at y c HW;clear J
      go_wp2_with (first
       | (go_at_call 251;refine(J23 ln (k+1) _ (by omega) (by omega)).mono ?_;rintro e w3 (⟨Y,v2,rfl,W,S⟩ | ⟨Y,rfl,S⟩)
          rotate_left
          · have R:=zI Y
            clear Y;go_wp2_with fail
            go_ret3
            have hE:cutE 1 (Jb7 s)=(k:Int)+1:=by
             rw[Int.add_comm];have h1:=Jx4 _ ln.toList ((LS.map ByteArray.toList).drop (k+1)) 1 HA.out R.out;rw[Hm.out] at h1;rw[<- h1]
             congr 1
             show(Jkh s).map ByteArray.toList=_;rw[<- C.out,Ha.out]
             conv=>lhs;rw[<- qa8 k (LS.map ByteArray.toList)]
             congr 1
             rw[qbm (by simpa using f)];simp
            refine⟨?_,.inr (.inl ⟨by omega,by rw[hE];omega,by first | (rw[hE];done) | (rw[hE];rfl)⟩)⟩
            exact((d.grown y.gr (by omega) (fun j hj=>by injection hj with hj;omega)).trans (S.mono (by have:=y.gr.size;omega)))
          have R:=zI Y;have r:=y.below T S;have z1:=r.c1;have z3:=r.f1;have Hc:=qax y.gr.size S.size;clear Y y y0 y1 y3 Z;rcases W.2 with⟨rfl,hz⟩ | ⟨g2,cap2,cur2,rfl,_,_,_,_,_,_⟩)
       | (at_builtin;refine wpList_append_own_none rfl _ _ 362 rfl w2.heap.size 266 i0 3 Tryz.underlying362 hi _ _ _ rfl r.own rfl ?_)
       | (at_builtin;refine qdl _ rfl _ _ 362 rfl w2.heap.size 266 i0 (.agg #[ByteArray.empty,(0:Int),(0:Int)]) 3 32 Tryz.underlying362 hi Hg Hh Hi rfl (by decide) _ _ _ rfl r.own ⟨g2,0,none⟩ _ _ (wrow (Jah (k+1) ln.toList)) rfl (Je3 _) (W.cells (g:=g2) rfl) ?c2 ?c3 ?c4 ?c5 ?_
          case c2=>exact J3a _
          case c3=>unfold maxLen;omega
          case c4=>omega
          case c5=>exact Hc
          intro v' w4 x u _;have Hd:some g≠Value.ownBlock _:=fun e=>by have:=(r.own.lt g e.symm).1;omega
          have I:=u.block g (by omega) Hd;have z5:w4.cell? ⟨g,1,none⟩=_:=(qbk (a:=⟨g,1,none⟩) I).trans z1;have z6:w4.frozen? ⟨g,1,none⟩=false:=(qco (a:=⟨g,1,none⟩) I).trans z3;have e0:(ws++Jah (k+1) ln.toList).length=ws.length+(Jah (k+1) ln.toList).length:=qad;rw[<- Jcs,<- e0] at x;have Hn:=r.put T u x;obtain⟨A4,c4,rfl,_,_⟩:=own_slice x;clear x u I Hd z1 z3))
      · have He:Jah (k+1) ln.toList=[]:=qa5 hz
        go_roundw
        case rel=>exact⟨k+1,_,by omega,by go_num,by rw[HW.out,He,qbp];exact r.put T ⟨rfl,rfl,rfl,qab _,fun _ _ _=>rfl⟩ r.own,Jtv Hb.out HA.out R.out,by rw[HW.out,qad];omega⟩
        case measure=>simp[intOf];omega
      · go_roundw
        case rel=>exact⟨k+1,_,by omega,by go_num,by rw[HW.out,<- e0];exact Hn,Jtv Hb.out HA.out R.out,by rw[HW.out,qad];omega⟩
        case measure=>simp[intOf];omega
    · have Ho:k=LS.length:=by omega
      have q:(LS.map ByteArray.toList).take k=Jb7 s:=by
       show _=(Jkh s).map ByteArray.toList;rw[<- C.out];exact qap (by simp;omega)
      rw[q] at y c;have H:(cutW 1 (Jb7 s)).length<=16004000:=(by omega);have Hf:=zI (show ∀l∈Jb7 s,l.all okB=true from by have:=HA.out;rwa [q] at this);have hd:decide ((k:Int)<(LS.length:Int))=false:=qae (by omega);clear Ho q HA c;go_wp2_with fail
      go_ret3
      have P:=d.grown y.gr (by omega) (fun j hj=>by injection hj with hj;omega);obtain⟨A1,c1,rfl,Hp,Hq⟩:=own_slice y.own;exact⟨P,.inr (.inr ⟨by omega,Jpd _ _ Hf.out,g,A,rfl,qar T y.gr.size,H,qaq _,y.c0,y.f0,A1,c1,y.c1,y.f1,Hq,Hp,fun b off e=>by subst e;have:=(y.own.lt b rfl).1;omega⟩)⟩
theorem Jkn(w:World)(g a:Nat)(ws:List Wd)(h:Jbb w g a ws):
  Cs 164 #[g] w (RB w ((ws.length - a:Nat):Int)):=by
 obtain⟨A,c,x,v,u,t,s⟩:=h.c1;have y0:=h.c0;have y:=h.le;have z:=h.few;have r:IntKind.i64.wrap ((ws.length:Int) - a)=(ws.length:Int) - a:=qbd _ (by omega);go_enter Tryz.func164,Tryz.ntmps164;go_wp2_with fail
 go_quiet (fail)
 go_wp2_with fail
 go_ret;exact⟨Jby (by omega),below_drewN (qaa _ _) _⟩
def wagg (x:Wd):Value:= .agg #[.string ⟨x.text.toArray⟩,(x.line:Int),(x.col:Int)]
def Jjq:Value:= .agg #[ByteArray.empty,(0:Int),(0:Int)]
def Jjm (a:Nat) (ws:List Wd):Value:=match ws[a]? with
 | some x=> .tuple #[wagg x,true]
 | none=> .tuple #[Jjq,false]
theorem Jhx{w w1:World}{T:TypeId}(hb:Below (w.alloc (.cells #[.string ⟨#[]⟩,(0:Int),(0:Int)] T)).heap.size (w.alloc (.cells #[.string ⟨#[]⟩,(0:Int),(0:Int)] T)) w1):
  w1.cell? ⟨w.heap.size,0,none⟩=some (.string ⟨#[]⟩)/\w1.cell? ⟨w.heap.size,1,none⟩=some (.int .i64 0)/\w1.cell? ⟨w.heap.size,2,none⟩=some (.int .i64 0)/\
  w1.frozen? ⟨w.heap.size,0,none⟩=false/\w1.frozen? ⟨w.heap.size,1,none⟩=false/\w1.frozen? ⟨w.heap.size,2,none⟩=false:=
 ⟨(hb.cell (p:=⟨w.heap.size,0,none⟩) (by simp)).trans (qcm _ _ _ _ rfl),(hb.cell (p:=⟨w.heap.size,1,none⟩) (by simp)).trans (qcm _ _ _ _ rfl),
  (hb.cell (p:=⟨w.heap.size,2,none⟩) (by simp)).trans (qcm _ _ _ _ rfl),(hb.frozen (p:=⟨w.heap.size,0,none⟩) (by simp)).trans (qcp _ _ _ _ rfl),
  (hb.frozen (p:=⟨w.heap.size,1,none⟩) (by simp)).trans (qcp _ _ _ _ rfl),(hb.frozen (p:=⟨w.heap.size,2,none⟩) (by simp)).trans (qcp _ _ _ _ rfl)⟩
theorem Je5(w:World)(g a:Nat)(ws:List Wd)(h:Jbb w g a ws):
  Cs 165 #[g] w (RB w (Jjm a ws)):=by
 have u:=h.below ((qaa _ _).alloc (qab _) (.cells #[.string ⟨#[]⟩,(0:Int),(0:Int)] 266));have t:=h.few;by_cases s:a<ws.length
 · have x:Jjm a ws= .tuple #[wagg ws[a],true]:=by unfold Jjm;rw[qah s]
   rw[x];have r:decide ((((ws.length - a:Nat):Int))=0)=false:=qae (by omega);clear x;go_enter Tryz.func165,Tryz.ntmps165
   go_wp2_with (first
    | (go_at_call 164;refine(Jkn _ _ _ _ u).mono ?_;rintro e w1 ⟨rfl,y⟩
       have q:=u.below y;obtain⟨A,c,x1,x2,x3,x4,x5⟩:=q.c1;have y0:=q.c0;obtain⟨b,off,rfl,_,z⟩:=x3.at_ (fun e=>by have:=congrArg List.length e;rw[Je3] at this;simp at this;omega);obtain⟨g1,g2,g3⟩:=Jhu ws a s;have z1:=z _ _ g1;have z2:=z _ _ g2;have z3:=z _ _ g3;rw[<- qcd] at z2 z3;obtain⟨q0,q1,q2,q3,q4,q5⟩:=Jhx y;clear z g1 g2 g3))
   go_still_tail 11,(by kernel_rfl)
   change wpList _ _ _ _ _ w1.drew;go_wp2_with fail
   (try simp only[Exit.inBlock,Exit.then])
   refine qa6 (v:= .tuple #[wagg ws[a],true]) ?_ rfl ⟨rfl,?_⟩
   · rw[results_cell_tmp rfl]
     go_simp
     rfl
   · exact((((((qaa w.heap.size w).alloc (qab _) _).trans (y.mono (by simp))).drew.setCell (by simp) _).setCell (by simp) _).setCell (by simp) _)
 · have x:Jjm a ws= .tuple #[Jjq,false]:=by unfold Jjm;rw[qbj (by omega)]
   rw[x];have r:ws.length - a=0:=by omega
   go_enter Tryz.func165,Tryz.ntmps165
   go_wp2_with (first
    | (go_at_call 164;refine(Jkn _ _ _ _ u).mono ?_;rw[r];rintro e w1 ⟨rfl,y⟩;obtain⟨q0,q1,q2,q3,q4,q5⟩:=Jhx y))
   (try simp only[Exit.inBlock,Exit.then])
   refine qa6 (v:= .tuple #[Jjq,false]) ?_ rfl ⟨rfl,?_⟩
   · rw[results_cell_tmp rfl]
     go_simp
     rfl
   · exact((((((qaa w.heap.size w).alloc (qab _) _).trans (y.mono (by simp))).setCell (by simp) _).setCell (by simp) _).setCell (by simp) _)
def Jnp (a:Nat) (ws:List Wd):Nat:=if a<ws.length then a+1 else a
theorem Jhy{w w1:World}{g:Nat}(h:w.grownBy w1 (some g)){p:Addr}(hp:w.heap.size<=p.block\/p.block=g)(u:Value):w.grownBy (w1.setCell p u) (some g):=
 ⟨h.os,h.tape,h.output,by have:=h.size;simpa using this,fun k hk hne=>by
  have e:k≠p.block:=fun e=>hp.elim (fun hp=>by omega) (fun hp=>hne (by rw[e,hp]));rw[qdi _ _ _ _ e];exact h.block k hk hne⟩
theorem Jbb.grow{w w':World}{g a a':Nat}{ws:List Wd}(h:Jbb w g a ws)(hg:w.grownBy w' (some g))(c0:w'.cell? ⟨g,0,none⟩=some (.int .i64 a'))(f0:w'.frozen? ⟨g,0,none⟩=false)(c1:w'.cell? ⟨g,1,none⟩=w.cell? ⟨g,1,none⟩)(f1:w'.frozen? ⟨g,1,none⟩=w.frozen? ⟨g,1,none⟩)(le:a'<=ws.length):Jbb w' g a' ws:=by
 obtain⟨A,c,y,x,v,t,z⟩:=h.c1;refine⟨qar h.lt hg.size,h.few,le,c0,f0,A,c,c1.trans y,f1.trans x,⟨fun hne=> ?_⟩,t,z⟩;obtain⟨b,off,e,s,r⟩:=v.at_ hne;exact⟨b,off,e,qar s hg.size,fun j u hu=>hg.cell (r j u hu) (by simp;exact z b off e)⟩
theorem Jtw(w:World)(g a:Nat)(ws:List Wd)(h:Jbb w g a ws):
  Cs 317 #[(g:Nat)] w fun e w'=>e= .returned (Jjm a ws)/\Jbb w' g (Jnp a ws) ws/\w.grownBy w' (some g)/\w'.cell? ⟨g,1,none⟩=w.cell? ⟨g,1,none⟩:=by
 have l:=h.below ((qaa _ _).alloc (qab _) (.cells #[.string ⟨#[]⟩,(0:Int),(0:Int)] 266));have d:=h.few;have z:=h.lt;by_cases n:a<ws.length
 · have r:Jjm a ws= .tuple #[.agg #[.string ⟨ws[a].text.toArray⟩,(ws[a].line:Int),(ws[a].col:Int)],true]:=by unfold Jjm;rw[qah n];rfl
   have m:Jnp a ws=a+1:=by unfold Jnp;rw[qa0 n]
   rw[m,r];clear m;go_enter Tryz.func317,Tryz.ntmps317
   go_wp2_with (first
    | (go_at_call 165;refine(Je5 _ _ _ _ l).mono ?_;rw[r];rintro e w1 ⟨rfl,x⟩
       have k:=l.below x;have y0:=k.c0;have y1:=k.f0;obtain⟨q0,q1,q2,q3,q4,q5⟩:=Jhx x;have s:g<w1.heap.size:=k.lt;have f:w.heap.size<w1.heap.size:=by have:=x.size;simp at this;omega
       have b:IntKind.i64.wrap ((a:Int)+1)=(a:Int)+1:=qbd _ (by omega)))
   (try simp only[Exit.inBlock,Exit.then])
   have q:w.grownBy w1 (some g):=Jab (((qaa w.heap.size w).alloc (qab _) _).trans (x.mono (by simp))) _
   have t:=Jas (Jhy (Jhy (Jhy (Jhy q (p:=⟨g,0,none⟩) (.inr rfl) ((a:Int)+1:Int))
    (p:=⟨w.heap.size,0,none⟩) (.inl (qab _)) (.string ⟨ws[a].text.toArray⟩)) (p:=⟨w.heap.size,1,none⟩) (.inl (qab _)) (ws[a].line:Int)) (p:=⟨w.heap.size,2,none⟩) (.inl (qab _)) (ws[a].col:Int)) (qbl _ (.cells #[.string ⟨ws[a].text.toArray⟩,(ws[a].line:Int),(ws[a].col:Int)] 266) _)
   have y:∀i j,(⟨w.heap.size,i,none⟩:Addr)≠⟨g,j,none⟩:=fun i j e=>by injection e with e;omega
   have F1:∀v0 v1 v2 v3 o,((((((w1.setCell ⟨g,0,none⟩ v0).setCell ⟨w.heap.size,0,none⟩ v1).setCell ⟨w.heap.size,1,none⟩ v2).setCell ⟨w.heap.size,2,none⟩ v3).alloc o).cell? ⟨g,0,none⟩=some v0)/\((((((w1.setCell ⟨g,0,none⟩ v0).setCell ⟨w.heap.size,0,none⟩ v1).setCell ⟨w.heap.size,1,none⟩ v2).setCell ⟨w.heap.size,2,none⟩ v3).alloc o).cell? ⟨g,1,none⟩=w1.cell? ⟨g,1,none⟩)/\
     ∀i,(((((w1.setCell ⟨g,0,none⟩ v0).setCell ⟨w.heap.size,0,none⟩ v1).setCell ⟨w.heap.size,1,none⟩ v2).setCell ⟨w.heap.size,2,none⟩ v3).alloc o).frozen? ⟨g,i,none⟩=w1.frozen? ⟨g,i,none⟩:=fun v0 v1 v2 v3 o=>by
    refine⟨?_,?_,fun i=> ?_⟩
    · rw[qb0 _ _ _ (by simpa using s),qbh _ _ _ _ (y _ _),qbh _ _ _ _ (y _ _),qbh _ _ _ _ (y _ _),qc6 _ _ _ y0]
    · rw[qb0 _ _ _ (by simpa using s),qbh _ _ _ _ (y _ _),qbh _ _ _ _ (y _ _),qbh _ _ _ _ (y _ _),qbh _ _ _ _ (by simp)]
    · rw[World.frozen?_alloc_past _ _ _ (by simpa using s),qbu,qbu,qbu,qbu]
   refine qa6 (v:= .tuple #[.agg #[.string ⟨ws[a].text.toArray⟩,(ws[a].line:Int),(ws[a].col:Int)],true]) ?_ rfl ⟨rfl,?_,t,?_⟩
   · rw[results_cell_tmp rfl]
     go_simp
   · have c:=q.block g z
     have E1:w1.cell? ⟨g,1,none⟩=w.cell? ⟨g,1,none⟩:=by
      rw[x.cell (by simp;omega),qb0 _ _ _ z]
     have E2:w1.frozen? ⟨g,1,none⟩=w.frozen? ⟨g,1,none⟩:=by
      rw[x.frozen (by simp;omega),World.frozen?_alloc_past _ _ _ z]
     exact h.grow t (F1 _ _ _ _ _).1 (((F1 _ _ _ _ _).2.2 0).trans y1) ((F1 _ _ _ _ _).2.1.trans E1) (((F1 _ _ _ _ _).2.2 1).trans E2) n
   · exact(F1 _ _ _ _ _).2.1.trans (by rw[x.cell (by simp;omega),qb0 _ _ _ z])
 · have r:Jjm a ws= .tuple #[.agg #[ByteArray.empty,(0:Int),(0:Int)],false]:=by unfold Jjm;rw[qbj (by omega)];rfl
   have m:Jnp a ws=a:=by unfold Jnp;rw[qay n]
   rw[m,r];go_enter Tryz.func317,Tryz.ntmps317
   go_wp2_with (first
    | (go_at_call 165;refine(Je5 _ _ _ _ l).mono ?_;rw[r];rintro e w1 ⟨rfl,x⟩;obtain⟨q0,q1,q2,q3,q4,q5⟩:=Jhx x
       have f:w.heap.size<w1.heap.size:=by have:=x.size;simp at this;omega))
   (try simp only[Exit.inBlock,Exit.then])
   have u:=((((((qaa w.heap.size w).alloc (qab _) _).trans (x.mono (by simp))).setCell (p:=⟨w.heap.size,0,none⟩) (qab _) ByteArray.empty).setCell (p:=⟨w.heap.size,1,none⟩) (qab _) (0:Int)).setCell (p:=⟨w.heap.size,2,none⟩) (qab _) (0:Int)).alloc (by simp;omega) (.cells #[ByteArray.empty,(0:Int),(0:Int)] 266);refine qa6 (v:= .tuple #[.agg #[ByteArray.empty,(0:Int),(0:Int)],false]) ?_ rfl ⟨rfl,h.below u,Jab u _,u.cell (p:=⟨g,1,none⟩) z⟩;rw[results_cell_tmp rfl];go_simp
