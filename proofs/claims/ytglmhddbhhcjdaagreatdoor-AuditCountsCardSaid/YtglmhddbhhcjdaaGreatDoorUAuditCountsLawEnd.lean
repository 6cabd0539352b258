/-
  AuditCounts: the card, out of its walk: for every input the call returns true, and each argument reads as it did.
-/
import Derived.Test.YtglmhddbhhcjdaaGreatDoorCards
import Derived.Test.YtglmhddbhhcjdaaGreatDoorTie
import GoSem.ClaimGoes
import GoSem.ClaimSeven
import Derived.ShutString
import Derived.SizedLaws
import Derived.Deep.DeepHandedRow
import Derived.LaidLaws
import Derived.Stop.LaidErr
import Derived.Shelf.Vars
import Derived.LaidSub
import Derived.Test.YtglmhddbhhcjdaaGreatDoorU47
set_option maxRecDepth 100000
set_option linter.unusedSimpArgs false
set_option maxHeartbeats 4000000
namespace Go.Proofs.YtglmhddbhhcjdaaGreatDoor.auditCounts
open Go.ChangeShapes Go.WideShapes Go.ChangeAt Go.RowKit
open Go.ChangeMaps (open_string shut_string)
set_option linter.unusedVariables false
theorem own:ownKnob Tryz.prog.godebug=none:=by kernel_rfl
theorem laidOut:laidOutB Tryz.prog=true:=by kernel_rfl
theorem table{W:World}(h:laidMetH Tryz.prog Rows.auditCountsRow.laid W):Lib.TabIs Tryz.prog W "internal/strconv.uint64pow10" .u64 Lib.pow10Tab:=by
 have z:laidMet Tryz.prog Rows.auditCountsRow.laid W:=h;exact Lib.tabIs_of_head (g:=3) (by kernel_rfl) (by kernel_rfl) Tryz.underlying501 Tryz.underlying55 (by kernel_rfl) (by kernel_rfl) (laidMet.tail (laidMet.tail z))
theorem J4v(H:Type)(enc:TypeId×Value ->H)(W:World)(base:Nat)(args:Array Value)(ds gs:List (DataW H))(before:List MemPlace)(hval0:∀ (j:Nat) t v,Tryz.f6.params[j]? =some t ->args[j]? =some v ->Value.okWide Tryz.prog W .any base t v)(hW:DataW.Whole enc Tryz.prog Tryz.f6.params.toList Rows.auditCountsSpec.vars false W args.toList ds gs before)(hsz:(DataW.weightsEach Tryz.prog (Tryz.f6.params.toList++Rows.auditCountsSpec.plain.varTypes Tryz.prog) (ds++gs)).all (· <=reachBytes)=true)(hsh:W.ShapedOpen Tryz.prog)(hL:laidMetH Tryz.prog Rows.auditCountsRow.laid W):
  Calls Tryz.prog 6 args W fun e W'=>∃v,e= .returned v/\Rows.auditCountsSpec.post enc Tryz.prog Tryz.f6 false true false false W args v W':=by
 have u:∃m:Int,W.cell? ⟨0,0,none⟩=some (.int .i64 m):=Go.Proofs.cell_of_shapedOpen_int (zero:=#[.int .i64 0]) (t:=3) hsh (qbv (by kernel_rfl)) (by kernel_rfl) rfl (by kernel_rfl) (by kernel_rfl) Tryz.underlying3;have y:Lib.TabIs Tryz.prog W "internal/strconv.uint64pow10" .u64 Lib.pow10Tab:=table hL;have z:∀ (j:Nat) t v,Tryz.f6.params[j]? =some t ->args[j]? =some v ->Value.okWide Tryz.prog W .any base t v:=hval0;have s:=hW;obtain⟨p,q,w,l,rfl,k,i⟩:=hW;have o:DataW.TrodAll enc Tryz.prog W 0 (fun _=>true) true Tryz.f6.params.toList args.toList ds p:=w;rw[Tryz.params6] at o z hsz;obtain⟨v0,vs0,d0,ds0,p0,q0,r,rfl,rfl,n,r0⟩:=trodAll_cons o;obtain⟨rfl,rfl,rfl⟩:=trodAll_nil r0;obtain rfl:args=#[v0]:=by cases args;simp_all
 obtain⟨rfl,rfl⟩:=trodVars_none l;have k0:=n;have lt0:∀x∈p0,x.block<W.heap.size:=by obtain⟨m,u⟩:=k0;exact DataW.trod_lt m _ _ _ u
 obtain⟨x0,w0⟩:=Jz4 (z 0 22 v0 rfl rfl) n;clear w hval0;refine(Ji7 x0 w0 ⟨u,y⟩).mono fun e W' ⟨he,bel⟩=> ?_;subst he;exact⟨_,rfl,_,_,_,[],_,[],s,trodAll_mk1 (shut_bool Tryz.underlying4 _),(trodAll_cons_mk (Below.trod laidOut (by kernel_rfl) (qbv (by kernel_rfl)) k0 bel lt0) trodAll_mk0),rfl,bel.frame _,fun h=>by cases h⟩
def cellOf:DataW Unit ->List Value
 | .lit (.int k v)=>[.int k v]
 | .agg parts=>parts.flatMap fun
   | .lit (.int k v)=>[.int k v]
   | .agg more=>more.flatMap fun
     | .lit (.int k v)=>[.int k v]
     | _=>[]
   | _=>[]
 | _=>[]
def Jid (d:DataW Unit) (o:Obj):Obj:=match o with
 | .cells _ t frozen=> .cells (cellOf d).toArray t frozen
 | o=>o
noncomputable def Jlh (os:Os):World:=
 {World.holding Tryz.prog os ⟨#[],#[],[]⟩ with heap:=((((World.holding Tryz.prog os ⟨#[],#[],[]⟩).heap.modify 4 (Jid Rows.laid_math_bits_deBruijn32tab)).modify 5 (Jid Rows.laid_math_bits_deBruijn64tab)).modify 3 (Jid Rows.laid_internal_strconv_uint64pow10)).modify 2 (Jid Rows.laid_unicode_utf8_acceptRanges) |>.modify 1 (Jid Rows.laid_unicode_utf8_first)}
theorem J4w(os:Os):laidMet Tryz.prog Rows.auditCountsRow.laid ((Jlh os).forCall (fun _ _=>0) ⟨#[],#[.slice none 0 0],[]⟩).memory:=
 laidMet_of_run' 8 (by kernel_rfl) (by kernel_rfl)
theorem reads(os:Os){H:Type}(enc:TypeId×Value ->H):∃places,DataW.whole enc Tryz.prog ((Jlh os).forCall (fun _ _=>0) ⟨#[],#[.slice none 0 0],[]⟩).memory Tryz.f6.params.toList Rows.auditCountsSpec.vars false #[(.slice none 0 0:Value)].toList 8=some ([.nil],[],places):=
 ⟨[],by kernel_rfl⟩
theorem lifted(os:Os)(started:os.Started)(H:Type)(enc:TypeId×Value ->H)(F:Stop.Interp):
  ReturnsInHanded {} Tryz.checked os 6 .any ((OpenSpec.ofChange Rows.auditCountsSpec).preRow enc Tryz.prog Tryz.f6 Rows.auditCountsRow.domain false Rows.auditCountsRow.laid) (((OpenSpec.ofChange Rows.auditCountsSpec).at F).post enc Tryz.prog Tryz.f6 false true false false):=by
 obtain⟨places,w⟩:=reads os enc
 refine returnsInHanded_of_row (C:=Tryz.checked) (s:=(OpenSpec.ofChange Rows.auditCountsSpec)) own started (by kernel_rfl) Tryz.func6
  (witness_row_at (enc:=enc) (C:=Tryz.checked) false (Jlh os) #[.slice none 0 0] rfl (by kernel_rfl) (by kernel_rfl) (by kernel_rfl)
    (OpenSpec.preRow_of_cond 8 w (by kernel_rfl) (fun k hk=>by cases hk) (by kernel_rfl) (J4w os))) ?_
 intro W base args ds gs before z v _ _ y u x _;exact J4v H enc W base args ds gs before z v y x u
theorem said:Rows.AuditCountsSaid:=
 OpenClaim.holds_of_cond 6 Tryz.f6 rfl rfl rfl rfl rfl rfl rfl ⟨rfl,rfl,rfl,rfl,rfl⟩ rfl rfl rfl rfl rfl (by as_aux_lemma=>kernel_rfl) Tryz.func6 closed
  (qbv (by as_aux_lemma=>kernel_rfl)) (by as_aux_lemma=>unfold Func.isWrapper;first | (rw[if_pos (by decide+kernel)];kernel_rfl) | (rw[if_neg (by decide+kernel)];exact⟨rfl,rfl⟩))
  (fun os started H enc _ F=>by rw[OpenClaim.pre_eq_preRow];exact lifted os started H enc F)
theorem plain(f:FuncId)(fn:Func)(hf:Tryz.pinned.checked.prog.funcNamed "sediment/sedimentlaw27.AuditCounts"=some f)(hfn:Tryz.pinned.checked.prog.funcs[f]? =some fn):
  true=Tryz.pinned.checked.prog.looks []/\∀ (j:Nat) t,fn.params[j]? =some t ->Tryz.pinned.checked.prog.wantsStandIn t=false:=by
 obtain rfl:f=6:=qc2 ((show Tryz.prog.funcNamed "sediment/sedimentlaw27.AuditCounts"=some 6 by kernel_rfl).symm.trans hf) |>.symm;obtain rfl:fn=Tryz.f6:=(qc2 (Tryz.func6.symm.trans hfn)).symm;refine⟨by kernel_rfl,fun j t z=> ?_⟩;rw[Tryz.params6] at z;have y:∀t∈([22]:List TypeId),Tryz.prog.wantsStandIn t=false:=by intro t z;simp only[qbf,List.mem_nil_iff,or_false] at z;rcases z with rfl<;>kernel_rfl
 exact y t (by have:=Array.mem_of_getElem? z;simpa using this)
theorem J1f{P:Program}(h:P.funcs.any Func.goes=false)(c:OpenClaim)(hs:c.start= .entering):false=c.goesBy P:=by
 have z:∀g:FuncId,(P.funcs[g]?).any Func.goes=false:=fun g=>by
  rw[Array.any_eq_false] at h;cases e:P.funcs[g]? with
  | none=>rfl
  | some fn=>
    obtain⟨y,e'⟩:=Array.getElem?_eq_some_iff.1 e;have:=h g y;rw[e'] at this
    simpa using this
 have x:∀f,P.goes f=false:=fun f=>by
  unfold Program.goes;rw[h,Bool.and_false,Bool.or_false,List.any_eq_false];intro g _;rw[z];exact Bool.false_ne_true
 unfold OpenClaim.goesBy Program.goesAt Program.goesFrom;rw[hs];cases P.funcNamed c.func with
 | none=>rfl
 | some f=>simp only[Option.any_some,x,Bool.or_false]
theorem J4x:Tryz.pinned.checked.prog.funcs.any Func.goes=false:=by kernel_rfl
theorem proved:Rows.AuditCountsCardSaid:=
 Claim7.holds_tied_plain_at .later [] _ _ _ _ said (fun _ h=>by cases h) (by kernel_rfl) (fun _ h=>by cases h) auditCounts_row_tie rfl ⟨rfl,rfl⟩ (by kernel_rfl) rfl plain (J1f J4x _ rfl)
#print axioms proved
end Go.Proofs.YtglmhddbhhcjdaaGreatDoor.auditCounts
