/-
  AuditCorrupt: the card, out of its walk: for every input the call returns true, and each argument reads as it did.
-/
import Derived.Test.YtglmhddbhhcjdaaGreatDoorCards
import Derived.Test.YtglmhddbhhcjdaaGreatDoorTie
import Derived.Deep.DeepHandedRow
import Derived.Stop.LaidErr
import Derived.Test.YtglmhddbhhcjdaaGreatDoorC47
set_option maxRecDepth 100000
set_option linter.unusedSimpArgs false
set_option maxHeartbeats 4000000
namespace Go.Proofs.YtglmhddbhhcjdaaGreatDoor.auditCorrupt
open Go.ChangeShapes Go.WideShapes Go.ChangeAt Go.RowKit
open Go.ChangeMaps (open_string shut_string)
set_option linter.unusedVariables false
theorem own:ownKnob Tryz.prog.godebug=none:=by kernel_rfl
theorem laidOut:laidOutB Tryz.prog=true:=by kernel_rfl
theorem table{W:World}(h:laidMetH Tryz.prog Rows.auditCorruptRow.laid W):Lib.TabIs Tryz.prog W "internal/strconv.uint64pow10" .u64 Lib.pow10Tab:=by
 have z:laidMet Tryz.prog Rows.auditCorruptRow.laid W:=h;exact Lib.tabIs_of_head (g:=3) (by kernel_rfl) (by kernel_rfl) Tryz.underlying501 Tryz.underlying55 (by kernel_rfl) (by kernel_rfl) (laidMet.tail (laidMet.tail z))
theorem J58(H:Type)(enc:TypeId×Value ->H)(W:World)(base:Nat)(args:Array Value)(ds gs:List (DataW H))(before:List MemPlace)(hval0:∀ (j:Nat) t v,Tryz.f4.params[j]? =some t ->args[j]? =some v ->Value.okWide Tryz.prog W .any base t v)(hW:DataW.Whole enc Tryz.prog Tryz.f4.params.toList Rows.auditCorruptSpec.vars false W args.toList ds gs before)(hsz:(DataW.weightsEach Tryz.prog (Tryz.f4.params.toList++Rows.auditCorruptSpec.plain.varTypes Tryz.prog) (ds++gs)).all (· <=reachBytes)=true)(hsh:W.ShapedOpen Tryz.prog)(hL:laidMetH Tryz.prog Rows.auditCorruptRow.laid W):
  Cs 4 args W fun e W'=>∃v,e= .returned v/\Rows.auditCorruptSpec.post enc Tryz.prog Tryz.f4 false true false false W args v W':=by
 have y:∃m:Int,W.cell? ⟨0,0,none⟩=some (.int .i64 m):=Go.Proofs.cell_of_shapedOpen_int (zero:=#[(0:Int)]) (t:=3) hsh (qb7 (by kernel_rfl)) (by kernel_rfl) rfl (by kernel_rfl) (by kernel_rfl) Tryz.underlying3;have w:Lib.TabIs Tryz.prog W "internal/strconv.uint64pow10" .u64 Lib.pow10Tab:=table hL;have z:∀ (j:Nat) t v,Tryz.f4.params[j]? =some t ->args[j]? =some v ->Value.okWide Tryz.prog W .any base t v:=hval0;have s:=hW;obtain⟨p,q,u,i,rfl,g,f⟩:=hW;have o:DataW.TrodAll enc Tryz.prog W 0 (fun _=>true) true Tryz.f4.params.toList args.toList ds p:=u;rw[Tryz.params4] at o z hsz;obtain⟨v0,vs0,d0,ds0,p0,q0,r,rfl,rfl,n,r0⟩:=trodAll_cons o;obtain⟨v1,vs1,d1,ds1,p1,q1,rfl,rfl,rfl,l,r1⟩:=trodAll_cons r0;obtain⟨v2,vs2,d2,ds2,p2,q2,rfl,rfl,rfl,k,r2⟩:=trodAll_cons r1;obtain⟨rfl,rfl,rfl⟩:=trodAll_nil r2;obtain rfl:args=#[v0,v1,v2]:=by cases args;simp_all
 obtain⟨rfl,rfl⟩:=trodVars_none i;have k0:=n;have lt0:∀x∈p0,x.block<W.heap.size:=by obtain⟨m,y⟩:=k0;exact DataW.trod_lt m _ _ _ y
 have k1:=l;have lt1:∀x∈p1,x.block<W.heap.size:=by obtain⟨m,y⟩:=k1;exact DataW.trod_lt m _ _ _ y
 have k2:=k;have lt2:∀x∈p2,x.block<W.heap.size:=by obtain⟨m,y⟩:=k2;exact DataW.trod_lt m _ _ _ y
 obtain⟨x0,w0⟩:=J06 (z 0 22 v0 rfl rfl) n;obtain⟨a1,rfl,d,c,w1⟩:=open_int Tryz.underlying3 (z 1 3 v1 rfl rfl) l;obtain⟨a2,rfl,b,a,w2⟩:=open_int Tryz.underlying3 (z 2 3 v2 rfl rfl) k;clear u hval0;refine(Ji9 x0 w0 a1 a2 (Jit w1) ⟨y,w⟩).mono fun e W' ⟨he,bel⟩=> ?_;subst he;exact⟨_,rfl,_,_,_,[],_,[],s,trodAll_mk1 (shut_bool Tryz.underlying4 _),(trodAll_cons_mk (Below.trod laidOut (by kernel_rfl) (qb7 (by kernel_rfl)) k0 bel lt0) (trodAll_cons_mk (Below.trod laidOut (by kernel_rfl) (qb7 (by kernel_rfl)) k1 bel lt1) (trodAll_cons_mk (Below.trod laidOut (by kernel_rfl) (qb7 (by kernel_rfl)) k2 bel lt2) trodAll_mk0))),rfl,bel.frame _,fun h=>by cases h⟩
def cellOf:DataW Unit ->List Value
 | .lit (.int k v)=>[.int k v]
 | .agg parts=>parts.flatMap fun
   | .lit (.int k v)=>[.int k v]
   | .agg more=>more.flatMap fun
     | .lit (.int k v)=>[.int k v]
     | _=>[]
   | _=>[]
 | _=>[]
def Jin (d:DataW Unit) (o:Obj):Obj:=match o with
 | .cells _ t frozen=> .cells (cellOf d).toArray t frozen
 | o=>o
noncomputable def Jlw (os:Os):World:=
 {World.holding Tryz.prog os ⟨#[],#[],[]⟩ with heap:=((((World.holding Tryz.prog os ⟨#[],#[],[]⟩).heap.modify 4 (Jin Rows.laid_math_bits_deBruijn32tab)).modify 5 (Jin Rows.laid_math_bits_deBruijn64tab)).modify 3 (Jin Rows.laid_internal_strconv_uint64pow10)).modify 2 (Jin Rows.laid_unicode_utf8_acceptRanges) |>.modify 1 (Jin Rows.laid_unicode_utf8_first)}
theorem J59(os:Os):laidMet Tryz.prog Rows.auditCorruptRow.laid ((Jlw os).forCall (fun _ _=>0) ⟨#[],#[(),(0:Int),(0:Int)],[]⟩).memory:=
 laidMet_of_run' 8 (by kernel_rfl) (by kernel_rfl)
theorem reads(os:Os){H:Type}(enc:TypeId×Value ->H):∃places,DataW.whole enc Tryz.prog ((Jlw os).forCall (fun _ _=>0) ⟨#[],#[(),(0:Int),(0:Int)],[]⟩).memory Tryz.f4.params.toList Rows.auditCorruptSpec.vars false #[(.slice none 0 0:Value),((0:Int):Value),((0:Int):Value)].toList 8=some ([.nil,.lit (.int .i64 0),.lit (.int .i64 0)],[],places):=
 ⟨[],by kernel_rfl⟩
theorem lifted(os:Os)(started:os.Started)(H:Type)(enc:TypeId×Value ->H)(F:Stop.Interp):
  ReturnsInHanded {} Tryz.checked os 4 .any ((OpenSpec.ofChange Rows.auditCorruptSpec).preRow enc Tryz.prog Tryz.f4 Rows.auditCorruptRow.domain false Rows.auditCorruptRow.laid) (((OpenSpec.ofChange Rows.auditCorruptSpec).at F).post enc Tryz.prog Tryz.f4 false true false false):=by
 obtain⟨places,w⟩:=reads os enc
 refine returnsInHanded_of_row (C:=Tryz.checked) (s:=(OpenSpec.ofChange Rows.auditCorruptSpec)) own started (by kernel_rfl) Tryz.func4
  (witness_row_at (enc:=enc) (C:=Tryz.checked) false (Jlw os) #[(),(0:Int),(0:Int)] rfl (by kernel_rfl) (by kernel_rfl) (by kernel_rfl)
    (OpenSpec.preRow_of_cond 8 w (by kernel_rfl) (fun k hk=>by cases hk) (by kernel_rfl) (J59 os))) ?_
 intro W base args ds gs before z v _ _ y u x _;exact J58 H enc W base args ds gs before z v y x u
theorem said:Rows.AuditCorruptSaid:=
 OpenClaim.holds_of_cond 4 Tryz.f4 rfl rfl rfl rfl rfl rfl rfl ⟨rfl,rfl,rfl,rfl,rfl⟩ rfl rfl rfl rfl rfl (by as_aux_lemma=>kernel_rfl) Tryz.func4 closed
  (qb7 (by as_aux_lemma=>kernel_rfl)) (by as_aux_lemma=>unfold Func.isWrapper;first | (rw[qa0 (by decide+kernel)];kernel_rfl) | (rw[qay (by decide+kernel)];exact⟨rfl,rfl⟩))
  (fun os started H enc _ F=>by rw[OpenClaim.pre_eq_preRow];exact lifted os started H enc F)
theorem plain(f:FuncId)(fn:Func)(hf:Tryz.pinned.checked.prog.funcNamed "sediment/sedimentlaw27.AuditCorrupt"=some f)(hfn:Tryz.pinned.checked.prog.funcs[f]? =some fn):
  true=Tryz.pinned.checked.prog.looks []/\∀ (j:Nat) t,fn.params[j]? =some t ->Tryz.pinned.checked.prog.wantsStandIn t=false:=by
 obtain rfl:f=4:=qbr ((show Tryz.prog.funcNamed "sediment/sedimentlaw27.AuditCorrupt"=some 4 by kernel_rfl).symm.trans hf) |>.symm;obtain rfl:fn=Tryz.f4:=(qbr (Tryz.func4.symm.trans hfn)).symm;refine⟨by kernel_rfl,fun j t z=> ?_⟩;rw[Tryz.params4] at z;have y:∀t∈([22,3,3]:List TypeId),Tryz.prog.wantsStandIn t=false:=by intro t z;simp only[qbb,List.mem_nil_iff,or_false] at z;rcases z with rfl | rfl | rfl<;>kernel_rfl
 exact y t (by have:=Array.mem_of_getElem? z;simpa using this)
theorem J2u{P:Program}(h:P.funcs.any Func.goes=false)(c:OpenClaim)(hs:c.start= .entering):false=c.goesBy P:=by
 have z:∀g:FuncId,(P.funcs[g]?).any Func.goes=false:=fun g=>by
  rw[Array.any_eq_false] at h;cases e:P.funcs[g]? with
  | none=>rfl
  | some fn=>
    obtain⟨y,e'⟩:=qc1.1 e;have:=h g y;rw[e'] at this
    simpa using this
 have x:∀f,P.goes f=false:=fun f=>by
  unfold Program.goes;rw[h,Bool.and_false,Bool.or_false,List.any_eq_false];intro g _;rw[z];exact Bool.false_ne_true
 unfold OpenClaim.goesBy Program.goesAt Program.goesFrom;rw[hs];cases P.funcNamed c.func with
 | none=>rfl
 | some f=>simp only[Option.any_some,x,Bool.or_false]
theorem J6a:Tryz.pinned.checked.prog.funcs.any Func.goes=false:=by kernel_rfl
theorem proved:Rows.AuditCorruptCardSaid:=
 Claim7.holds_tied_plain_at .later [] _ _ _ _ said (fun _ h=>by cases h) (by kernel_rfl) (fun _ h=>by cases h) auditCorrupt_row_tie rfl ⟨rfl,rfl⟩ (by kernel_rfl) rfl plain (J2u J6a _ rfl)
#print axioms proved
