/-
  What all texts stand on: the program; no statement.
-/
import Derived.Lib.Hide
import Derived.Test.YtglmhddbhhcjdaaGreatDoorProg
import GoSem.PinnedTables
import GoSem.Claim
import GoSem.ClaimJoined
import GoSem.ClaimMapViews
import Derived.JoinedTies
import Derived.OrdersHeld
import Derived.WalkKit
import Derived.KernelRfl
set_option maxRecDepth 100000
set_option linter.unusedSimpArgs false
set_option maxHeartbeats 4000000
namespace Go.Proofs.YtglmhddbhhcjdaaGreatDoor
instance:Coe Int Value:=⟨.int .i64⟩
instance:Coe Nat Value:=⟨fun g=>.pointer (some ⟨g,0,none⟩)⟩
instance:Coe ByteArray Value:=⟨.string⟩
instance:Coe Bool Value:=⟨.bool⟩
theorem exE{α:Sort _}(a:α):∃x,x=a:=⟨a,rfl⟩
abbrev Cs:=Calls Tryz.prog
abbrev RB(w:World)(v:Value)(e:Ending)(w':World):Prop:=e= .returned v/\Go.RowKit.Below w.heap.size w w'
theorem tkE{P:Program}{ops:Array Oper}{Q:Exit ->Act ->World ->Prop}{md:Region.Mode}{S:World ->Prop}(i:Nat){oi:Oper}{v:Value}{fuel:Nat}{listed:Array Bool}{a:Act}{w:World}(h:wpAnyH P md ops Q S fuel (listed.setIfInBounds i true) (a.put oi.dst v) w)(hi:ops[i]?=some oi:=by rfl)(hb:(Region.noSelect ops&&(Region.free md ops listed i&&(Region.ready md ops listed).contains i))=true:=by kernel_rfl)(hQ:∀c a w,Q (.panic c) (a.put oi.dst v) w ->Q (.panic c) a w:=by exact fun _ _ _ h=>h)(hw:Region.wanted oi (yielded ops a.tmps)=true:=by rfl)(hy:∀w,S w ->(execOp a.eval oi).run P w= .ok (.value v) w:=by intro w z;(try dsimp only at z);(go_simp<;>with_reducible rfl))(hS:S w:=by assumption):wpAnyH P md ops Q S (fuel+1) listed a w:=by
 simp only[Bool.and_eq_true] at hb;exact wpAnyH_take hi hb.1 hb.2.1 hb.2.2 hQ (.inl ⟨hw,hy⟩) hS h
theorem skE{P:Program}{ops:Array Oper}{Q:Exit ->Act ->World ->Prop}{md:Region.Mode}{S:World ->Prop}(i:Nat){oi:Oper}{fuel:Nat}{listed:Array Bool}{a:Act}{w:World}(h:wpAnyH P md ops Q S fuel (listed.setIfInBounds i true) (a.put oi.dst undef) w)(hi:ops[i]?=some oi:=by rfl)(hb:(Region.noSelect ops&&(Region.free md ops listed i&&(Region.ready md ops listed).contains i))=true:=by kernel_rfl)(hQ:∀c a w,Q (.panic c) (a.put oi.dst undef) w ->Q (.panic c) a w:=by exact fun _ _ _ h=>h)(hw:Region.wanted oi (yielded ops a.tmps)=false:=by rfl)(hS:S w:=by assumption):wpAnyH P md ops Q S (fuel+1) listed a w:=by
 simp only[Bool.and_eq_true] at hb;exact wpAnyH_take hi hb.1 hb.2.1 hb.2.2 hQ (.inr ⟨hw,rfl⟩) hS h
abbrev RS(w:World)(v:Value)(e:Ending)(w':World):Prop:=e= .returned v/\w=w'
set_option linter.defProp false
def qaa:=@Go.RowKit.Below.refl
def qab:=@Nat.le_refl
def qac:=@List.setIfInBounds_toArray
def qad:=@List.length_append
def qae:=@decide_eq_false
def qaf:=@List.getElem_cons_zero
def qag:=@List.getElem_cons_succ
def qah:=@List.getElem_toArray
def qai:=@List.set_cons_zero
def qaj:=@List.set_cons_succ
def qak:=@List.take_succ_eq_append_getElem
def qal:=@List.getElem_mem
def qam:=@List.getElem?_eq_getElem
def qan:=@decide_eq_true
def qao:=@List.take_of_length_le
def qap:=@List.length_take
def qaq:=@Nat.zero_le
def qar:=@Nat.lt_of_lt_of_le
def qas:=@List.flatMap_cons
def qat:=@Nat.le_trans
def qau:=@ByteArray.toList_eq
def qav:=@if_neg
def qaw:=@beq_eq_false_iff_ne
def qax:=@World.ownsRow_nil
def qay:=@List.flatMap_append
def qaz:=@List.mem_singleton
def qa0:=@List.length_map
def qa1:=@List.eq_nil_of_length_eq_zero
def qa2:=@if_pos
def qa3:=@List.length_cons
def qa4:=@List.length_drop
def qa5:=@List.append_assoc
def qa6:=@List.mem_cons
def qa7:=@bodyPost_ret
def qa8:=@List.pairwise_cons
def qa9:=@Nat.zero_add
def qba:=@decide_eq_true_eq
def qbb:=@List.mem_filter
def qbc:=@List.mem_append
def qbd:=@IntWalk.i64_in
def qbe:=@List.take_append_drop
def qbf:=@List.map_append
def qbg:=@List.getElem?_eq_none
def qbh:=@World.block_lt_of_cell?
def qbi:=@World.cell?_of_block
def qbj:=@World.grownBy_alloc
def qbk:=@List.append_nil
def qbl:=@World.cell?_setCell_other
def qbm:=@List.mem_map
def qbn:=@List.length_nil
def qbo:=@List.getElem?_eq_some_iff
def qbp:=@List.drop_eq_getElem_cons
def qbq:=@List.flatMap_nil
def qbr:=@List.mem_of_mem_take
def qbs:=@World.frozen?_setCell
def qbt:=@List.getElem_map
def qbu:=@List.filter_cons
def qbv:=@List.filter_eq_self
def qbw:=@List.reverse_cons
def qbx:=@info_parts
def qby:=@List.map_cons
def qbz:=@World.cell?_alloc_past
def qb0:=@List.foldl_append
def qb1:=@cell_of_row
def qb2:=@lt_of_block
def qb3:=@List.filter_congr
def qb4:=@List.take_length
def qb5:=@Bool.and_eq_true
def qb6:=@of_decide_eq_true
def qb7:=@List.getElem?_map
def qb8:=@World.grownBy.refl
def qb9:=@List.range_succ
def qca:=@List.mem_range
def qcb:=@List.getElem?_append_left
def qcc:=@Nat.add_assoc
def qcd:=@Bool.eq_iff_iff
def qce:=@List.getElem?_append_right
def qcf:=@List.nil_append
def qcg:=@heap_alloc_new
def qch:=@List.map_map
def qci:=@List.drop_of_length_le
def qcj:=@List.getElem_of_mem
def qck:=@World.cell?_alloc_at
def qcl:=@Nat.pow_le_pow_right
def qcm:=@World.frozen?_of_block
def qcn:=@World.frozen?_alloc_at
def qco:=@ByteArray.data_extract
def qcp:=@List.take_append_of_le_length
def qcq:=@List.mem_flatMap
def qcr:=@List.drop_append_of_le_length
def qcs:=@List.map_congr_left
def qct:=@Array.getElem?_toList
def qcu:=@heap_setCell_other
def qcv:=@List.filter_append
def qcw:=@List.mem_of_mem_drop
def qcx:=@Nat.le_of_lt
def qcy:=@List.takeWhile_cons
def qcz:=@List.mem_map_of_mem
def qc0:=@Int.toNat_natCast
def qc1:=@Array.getElem?_eq_getElem
def qc2:=@ownsRow_setCell_other
def qc3:=@Option.some.inj
def qc4:=@List.getElem?_take_of_lt
def qc5:=@List.ext_getElem
def qc6:=@List.mem_cons_of_mem
def qc7:=@List.sum_cons
def qc8:=@heap_setCell_same
def qc9:=@List.ext_getElem?
def qda:=@List.getElem?_range
def qdb:=@Go.RowKit.Below.alloc
def qdc:=@List.getD_eq_getElem?_getD
def qdd:=@Array.getElem?_eq_some_iff
def qde:=@World.size_alloc
def qdf:=@Nat.add_zero
def qdg:=@List.length_filter_le
def qdh:=@Go.RowKit.Below.heap_setCell
def qdi:=@List.drop_drop
def qdj:=@Bool.or_eq_false_iff
def qdk:=@wpList_append_own
def qdl:=@World.cell?_setCell_same
def qdm:=@List.nodup_append
def qdn:=@List.getElem_append_left
def qdo:=@List.length_pos_iff
def qdp:=@List.cons_append
def qdq:=@List.all_eq_true
def qdr:=@List.filter_eq_nil_iff
def qds:=@IntKind.wrap_i64
theorem zI{p:Prop}(h:p):Go.RowKit.Hid p:=Go.Lib.hid h
end Go.Proofs.YtglmhddbhhcjdaaGreatDoor
