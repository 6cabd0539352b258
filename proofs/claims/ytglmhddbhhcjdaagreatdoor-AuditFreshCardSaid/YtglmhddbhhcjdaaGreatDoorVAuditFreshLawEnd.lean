/-
  AuditFresh: the card, out of its walk: for every input the call returns true, and each argument reads as it did.
-/
import Derived.Test.YtglmhddbhhcjdaaGreatDoorCards
import Derived.Test.YtglmhddbhhcjdaaGreatDoorTie
import GoSem.ClaimGoes
import GoSem.ClaimSeven
import Derived.ShutString
import Derived.SizedLaws
import Derived.Deep.DeepHandedRow
import Derived.LaidLaws
import Derived.Stop.LaidErr
import Derived.Shelf.Vars
import Derived.LaidSub
import Derived.Test.YtglmhddbhhcjdaaGreatDoorV47
set_option maxRecDepth 100000
set_option linter.unusedSimpArgs false
set_option maxHeartbeats 4000000
namespace Go.Proofs.YtglmhddbhhcjdaaGreatDoor.auditFresh
open Go.ChangeShapes Go.WideShapes Go.ChangeAt Go.RowKit
open Go.ChangeMaps (open_string shut_string)
set_option linter.unusedVariables false
theorem own:ownKnob Tryz.prog.godebug=none:=by kernel_rfl
theorem laidOut:laidOutB Tryz.prog=true:=by kernel_rfl
theorem table{W:World}(h:laidMetH Tryz.prog Rows.auditFreshRow.laid W):Lib.TabIs Tryz.prog W "internal/strconv.uint64pow10" .u64 Lib.pow10Tab:=by
 have z:laidMet Tryz.prog Rows.auditFreshRow.laid W:=h;exact Lib.tabIs_of_head (g:=3) (by kernel_rfl) (by kernel_rfl) Tryz.underlying501 Tryz.underlying55 (by kernel_rfl) (by kernel_rfl) (laidMet.tail (laidMet.tail z))
theorem J5f(H:Type)(enc:TypeId×Value ->H)(W:World)(base:Nat)(args:Array Value)(ds gs:List (DataW H))(before:List MemPlace)(hval0:∀ (j:Nat) t v,Tryz.f5.params[j]? =some t ->args[j]? =some v ->Value.okWide Tryz.prog W .any base t v)(hW:DataW.Whole enc Tryz.prog Tryz.f5.params.toList Rows.auditFreshSpec.vars false W args.toList ds gs before)(hsz:(DataW.weightsEach Tryz.prog (Tryz.f5.params.toList++Rows.auditFreshSpec.plain.varTypes Tryz.prog) (ds++gs)).all (· <=reachBytes)=true)(hsh:W.ShapedOpen Tryz.prog)(hL:laidMetH Tryz.prog Rows.auditFreshRow.laid W):
  Cs 5 args W fun e W'=>∃v,e= .returned v/\Rows.auditFreshSpec.post enc Tryz.prog Tryz.f5 false true false false W args v W':=by
 have y:∃m:Int,W.cell? ⟨0,0,none⟩=some (.int .i64 m):=Go.Proofs.cell_of_shapedOpen_int (zero:=#[(0:Int)]) (t:=3) hsh (qb6 (by kernel_rfl)) (by kernel_rfl) rfl (by kernel_rfl) (by kernel_rfl) Tryz.underlying3;have w:Lib.TabIs Tryz.prog W "internal/strconv.uint64pow10" .u64 Lib.pow10Tab:=table hL;have z:∀ (j:Nat) t v,Tryz.f5.params[j]? =some t ->args[j]? =some v ->Value.okWide Tryz.prog W .any base t v:=hval0;have s:=hW;obtain⟨p,q,u,k,rfl,i,g⟩:=hW;have o:DataW.TrodAll enc Tryz.prog W 0 (fun _=>true) true Tryz.f5.params.toList args.toList ds p:=u;rw[Tryz.params5] at o z hsz;obtain⟨v0,vs0,d0,ds0,p0,q0,r,rfl,rfl,n,r0⟩:=trodAll_cons o;obtain⟨v1,vs1,d1,ds1,p1,q1,rfl,rfl,rfl,l,r1⟩:=trodAll_cons r0;obtain⟨rfl,rfl,rfl⟩:=trodAll_nil r1;obtain rfl:args=#[v0,v1]:=by cases args;simp_all
 obtain⟨rfl,rfl⟩:=trodVars_none k;have k0:=n;have lt0:∀x∈p0,x.block<W.heap.size:=by obtain⟨m,y⟩:=k0;exact DataW.trod_lt m _ _ _ y
 have k1:=l;have lt1:∀x∈p1,x.block<W.heap.size:=by obtain⟨m,y⟩:=k1;exact DataW.trod_lt m _ _ _ y
 obtain⟨x0,w0⟩:=J0m (z 0 22 v0 rfl rfl) n;obtain⟨a1,rfl,f,d,w1⟩:=open_int Tryz.underlying3 (z 1 3 v1 rfl rfl) l;clear u hval0;refine(Jlf x0 w0 a1 ⟨y,w⟩).mono fun e W' ⟨he,bel⟩=> ?_;subst he;exact⟨_,rfl,_,_,_,[],_,[],s,trodAll_mk1 (shut_bool Tryz.underlying4 _),(trodAll_cons_mk (Below.trod laidOut (by kernel_rfl) (qb6 (by kernel_rfl)) k0 bel lt0) (trodAll_cons_mk (Below.trod laidOut (by kernel_rfl) (qb6 (by kernel_rfl)) k1 bel lt1) trodAll_mk0)),rfl,bel.frame _,fun h=>by cases h⟩
def cellOf:DataW Unit ->List Value
 | .lit (.int k v)=>[.int k v]
 | .agg parts=>parts.flatMap fun
   | .lit (.int k v)=>[.int k v]
   | .agg more=>more.flatMap fun
     | .lit (.int k v)=>[.int k v]
     | _=>[]
   | _=>[]
 | _=>[]
def Jig (d:DataW Unit) (o:Obj):Obj:=match o with
 | .cells _ t frozen=> .cells (cellOf d).toArray t frozen
 | o=>o
noncomputable def Jlg (os:Os):World:=
 {World.holding Tryz.prog os ⟨#[],#[],[]⟩ with heap:=((((World.holding Tryz.prog os ⟨#[],#[],[]⟩).heap.modify 4 (Jig Rows.laid_math_bits_deBruijn32tab)).modify 5 (Jig Rows.laid_math_bits_deBruijn64tab)).modify 3 (Jig Rows.laid_internal_strconv_uint64pow10)).modify 2 (Jig Rows.laid_unicode_utf8_acceptRanges) |>.modify 1 (Jig Rows.laid_unicode_utf8_first)}
theorem J5g(os:Os):laidMet Tryz.prog Rows.auditFreshRow.laid ((Jlg os).forCall (fun _ _=>0) ⟨#[],#[.slice none 0 0,(0:Int)],[]⟩).memory:=
 laidMet_of_run' 8 (by kernel_rfl) (by kernel_rfl)
theorem reads(os:Os){H:Type}(enc:TypeId×Value ->H):∃places,DataW.whole enc Tryz.prog ((Jlg os).forCall (fun _ _=>0) ⟨#[],#[.slice none 0 0,.int .i64 0],[]⟩).memory Tryz.f5.params.toList Rows.auditFreshSpec.vars false #[(.slice none 0 0:Value),(.int .i64 0:Value)].toList 8=some ([.nil,.lit (.int .i64 0)],[],places):=
 ⟨[],by kernel_rfl⟩
theorem lifted(os:Os)(started:os.Started)(H:Type)(enc:TypeId×Value ->H)(F:Stop.Interp):
  ReturnsInHanded {} Tryz.checked os 5 .any ((OpenSpec.ofChange Rows.auditFreshSpec).preRow enc Tryz.prog Tryz.f5 Rows.auditFreshRow.domain false Rows.auditFreshRow.laid) (((OpenSpec.ofChange Rows.auditFreshSpec).at F).post enc Tryz.prog Tryz.f5 false true false false):=by
 obtain⟨places,w⟩:=reads os enc
 refine returnsInHanded_of_row (C:=Tryz.checked) (s:=(OpenSpec.ofChange Rows.auditFreshSpec)) own started (by kernel_rfl) Tryz.func5
  (witness_row_at (enc:=enc) (C:=Tryz.checked) false (Jlg os) #[.slice none 0 0,(0:Int)] rfl (by kernel_rfl) (by kernel_rfl) (by kernel_rfl)
    (OpenSpec.preRow_of_cond 8 w (by kernel_rfl) (fun k hk=>by cases hk) (by kernel_rfl) (J5g os))) ?_
 intro W base args ds gs before z v _ _ y u x _;exact J5f H enc W base args ds gs before z v y x u
theorem said:Rows.AuditFreshSaid:=
 OpenClaim.holds_of_cond 5 Tryz.f5 rfl rfl rfl rfl rfl rfl rfl ⟨rfl,rfl,rfl,rfl,rfl⟩ rfl rfl rfl rfl rfl (by as_aux_lemma=>kernel_rfl) Tryz.func5 closed
  (qb6 (by as_aux_lemma=>kernel_rfl)) (by as_aux_lemma=>unfold Func.isWrapper;first | (rw[qa2 (by decide+kernel)];kernel_rfl) | (rw[qav (by decide+kernel)];exact⟨rfl,rfl⟩))
  (fun os started H enc _ F=>by rw[OpenClaim.pre_eq_preRow];exact lifted os started H enc F)
theorem plain(f:FuncId)(fn:Func)(hf:Tryz.pinned.checked.prog.funcNamed "sediment/sedimentlaw27.AuditFresh"=some f)(hfn:Tryz.pinned.checked.prog.funcs[f]? =some fn):
  true=Tryz.pinned.checked.prog.looks []/\∀ (j:Nat) t,fn.params[j]? =some t ->Tryz.pinned.checked.prog.wantsStandIn t=false:=by
 obtain rfl:f=5:=qc3 ((show Tryz.prog.funcNamed "sediment/sedimentlaw27.AuditFresh"=some 5 by kernel_rfl).symm.trans hf) |>.symm;obtain rfl:fn=Tryz.f5:=(qc3 (Tryz.func5.symm.trans hfn)).symm;refine⟨by kernel_rfl,fun j t z=> ?_⟩;rw[Tryz.params5] at z;have y:∀t∈([22,3]:List TypeId),Tryz.prog.wantsStandIn t=false:=by intro t z;simp only[qa6,List.mem_nil_iff,or_false] at z;rcases z with rfl | rfl<;>kernel_rfl
 exact y t (by have:=Array.mem_of_getElem? z;simpa using this)
theorem J1y{P:Program}(h:P.funcs.any Func.goes=false)(c:OpenClaim)(hs:c.start= .entering):false=c.goesBy P:=by
 have z:∀g:FuncId,(P.funcs[g]?).any Func.goes=false:=fun g=>by
  rw[Array.any_eq_false] at h;cases e:P.funcs[g]? with
  | none=>rfl
  | some fn=>
    obtain⟨y,e'⟩:=qdd.1 e;have:=h g y;rw[e'] at this
    simpa using this
 have x:∀f,P.goes f=false:=fun f=>by
  unfold Program.goes;rw[h,Bool.and_false,Bool.or_false,List.any_eq_false];intro g _;rw[z];exact Bool.false_ne_true
 unfold OpenClaim.goesBy Program.goesAt Program.goesFrom;rw[hs];cases P.funcNamed c.func with
 | none=>rfl
 | some f=>simp only[Option.any_some,x,Bool.or_false]
theorem J5h:Tryz.pinned.checked.prog.funcs.any Func.goes=false:=by kernel_rfl
theorem proved:Rows.AuditFreshCardSaid:=
 Claim7.holds_tied_plain_at .later [] _ _ _ _ said (fun _ h=>by cases h) (by kernel_rfl) (fun _ h=>by cases h) auditFresh_row_tie rfl ⟨rfl,rfl⟩ (by kernel_rfl) rfl plain (J1y J5h _ rfl)
#print axioms proved
end Go.Proofs.YtglmhddbhhcjdaaGreatDoor.auditFresh
