/- Laws that the walk of the last text wants. -/
import Derived.OrdersHeld
import Derived.WalkKit
import Derived.Lib.Hide
import Derived.Test.YtglmhddbhhcjdaaGreatDoorProg
import GoSem.PinnedTables
import GoSem.ClaimMapViews
import Derived.JoinedTies
import Derived.BigQuiet
set_option maxRecDepth 100000
set_option linter.unusedSimpArgs false
set_option maxHeartbeats 4000000
namespace Go.Proofs.YtglmhddbhhcjdaaGreatDoor
instance:Coe Int Value:=⟨.int .i64⟩
instance:Coe Nat Value:=⟨fun g=>.pointer (some ⟨g,0,none⟩)⟩
instance:Coe ByteArray Value:=⟨.string⟩
instance:Coe Bool Value:=⟨.bool⟩
instance:Coe Unit Value:=⟨fun _=>.slice none 0 0⟩
theorem exE{α:Sort _}(a:α):∃x,x=a:=⟨a,rfl⟩
abbrev Cs:=Calls Tryz.prog
abbrev RB(w:World)(v:Value)(e:Ending)(w':World):Prop:=e= .returned v/\Go.RowKit.Below w.heap.size w w'
theorem tkE{P:Program}{ops:Array Oper}{Q:Exit ->Act ->World ->Prop}{md:Region.Mode}{S:World ->Prop}(i:Nat){oi:Oper}{v:Value}{fuel:Nat}{listed:Array Bool}{a:Act}{w:World}(h:wpAnyH P md ops Q S fuel (listed.setIfInBounds i true) (a.put oi.dst v) w)(hi:ops[i]?=some oi:=by rfl)(hb:(Region.noSelect ops&&(Region.free md ops listed i&&(Region.ready md ops listed).contains i))=true:=by kernel_rfl)(hQ:∀c a w,Q (.panic c) (a.put oi.dst v) w ->Q (.panic c) a w:=by exact fun _ _ _ h=>h)(hw:Region.wanted oi (yielded ops a.tmps)=true:=by rfl)(hy:∀w,S w ->(execOp a.eval oi).run P w= .ok (.value v) w:=by intro w z;(try dsimp only at z);(go_simp<;>with_reducible rfl))(hS:S w:=by assumption):wpAnyH P md ops Q S (fuel+1) listed a w:=by
 simp only[Bool.and_eq_true] at hb;exact wpAnyH_take hi hb.1 hb.2.1 hb.2.2 hQ (.inl ⟨hw,hy⟩) hS h
theorem skE{P:Program}{ops:Array Oper}{Q:Exit ->Act ->World ->Prop}{md:Region.Mode}{S:World ->Prop}(i:Nat){oi:Oper}{fuel:Nat}{listed:Array Bool}{a:Act}{w:World}(h:wpAnyH P md ops Q S fuel (listed.setIfInBounds i true) (a.put oi.dst undef) w)(hi:ops[i]?=some oi:=by rfl)(hb:(Region.noSelect ops&&(Region.free md ops listed i&&(Region.ready md ops listed).contains i))=true:=by kernel_rfl)(hQ:∀c a w,Q (.panic c) (a.put oi.dst undef) w ->Q (.panic c) a w:=by exact fun _ _ _ h=>h)(hw:Region.wanted oi (yielded ops a.tmps)=false:=by rfl)(hS:S w:=by assumption):wpAnyH P md ops Q S (fuel+1) listed a w:=by
 simp only[Bool.and_eq_true] at hb;exact wpAnyH_take hi hb.1 hb.2.1 hb.2.2 hQ (.inr ⟨hw,rfl⟩) hS h
abbrev RS(w:World)(v:Value)(e:Ending)(w':World):Prop:=e= .returned v/\w=w'
set_option linter.defProp false
def qaa:=@Go.RowKit.Below.refl
def qab:=@Nat.le_refl
def qac:=@List.setIfInBounds_toArray
def qad:=@List.length_append
def qae:=@decide_eq_false
def qaf:=@List.getElem_cons_zero
def qag:=@List.getElem_cons_succ
def qah:=@List.getElem?_eq_getElem
def qai:=@List.getElem_toArray
def qaj:=@decide_eq_true
def qak:=@List.set_cons_zero
def qal:=@List.set_cons_succ
def qam:=@List.take_succ_eq_append_getElem
def qan:=@List.getElem_mem
def qao:=@List.length_take
def qap:=@List.take_of_length_le
def qaq:=@Nat.zero_le
def qar:=@Nat.lt_of_lt_of_le
def qas:=@List.append_assoc
def qat:=@beq_eq_false_iff_ne
def qau:=@List.flatMap_cons
def qav:=@List.flatMap_append
def qaw:=@ByteArray.toList_eq
def qax:=@Nat.le_trans
def qay:=@if_neg
def qaz:=@World.ownsRow_nil
def qa0:=@if_pos
def qa1:=@List.mem_singleton
def qa2:=@List.length_drop
def qa3:=@List.length_cons
def qa4:=@List.length_map
def qa5:=@List.eq_nil_of_length_eq_zero
def qa6:=@bodyPost_ret
def qa7:=@Nat.zero_add
def qa8:=@List.take_append_drop
def qa9:=@List.pairwise_cons
def qba:=@World.block_lt_of_cell?
def qbb:=@List.mem_cons
def qbc:=@decide_eq_true_eq
def qbd:=@IntWalk.i64_in
def qbe:=@List.mem_append
def qbf:=@List.mem_filter
def qbg:=@List.map_append
def qbh:=@World.cell?_setCell_other
def qbi:=@List.mem_of_mem_take
def qbj:=@List.getElem?_eq_none
def qbk:=@World.cell?_of_block
def qbl:=@World.grownBy_alloc
def qbm:=@List.drop_eq_getElem_cons
def qbn:=@List.mem_map
def qbo:=@List.length_nil
def qbp:=@List.append_nil
def qbq:=@List.getElem_map
def qbr:=@Option.some.inj
def qbs:=@List.getElem?_eq_some_iff
def qbt:=@List.flatMap_nil
def qbu:=@World.frozen?_setCell
def qbv:=@List.filter_cons
def qbw:=@List.range_succ
def qbx:=@List.filter_eq_self
def qby:=@List.reverse_cons
def qbz:=@List.map_cons
def qb0:=@World.cell?_alloc_past
def qb1:=@Bool.and_eq_true
def qb2:=@info_parts
def qb3:=@List.getElem?_map
def qb4:=@cell_of_row
def qb5:=@List.getElem_of_mem
def qb6:=@List.getElem?_append_right
def qb7:=@of_decide_eq_true
def qb8:=@List.foldl_append
def qb9:=@List.filter_congr
def qca:=@List.take_length
def qcb:=@lt_of_block
def qcc:=@World.grownBy.refl
def qcd:=@Nat.add_assoc
def qce:=@List.mem_range
def qcf:=@List.getElem?_append_left
def qcg:=@Bool.eq_iff_iff
def qch:=@Calls.quiet_of_same
def qci:=@heap_alloc_new
def qcj:=@List.drop_of_length_le
def qck:=@List.nil_append
def qcl:=@List.map_map
def qcm:=@World.cell?_alloc_at
def qcn:=@Nat.pow_le_pow_right
def qco:=@World.frozen?_of_block
def qcp:=@World.frozen?_alloc_at
def qcq:=@ByteArray.data_extract
def qcr:=@List.take_append_of_le_length
def qcs:=@List.mem_flatMap
def qct:=@List.drop_append_of_le_length
def qcu:=@List.mem_map_of_mem
def qcv:=@List.map_congr_left
def qcw:=@Nat.le_of_lt
def qcx:=@List.getElem?_take_of_lt
def qcy:=@Array.getElem?_toList
def qcz:=@List.filter_append
def qc0:=@List.mem_of_mem_drop
def qc1:=@Array.getElem?_eq_some_iff
def qc2:=@List.takeWhile_cons
def qc3:=@Int.toNat_natCast
def qc4:=@Array.getElem?_eq_getElem
def qc5:=@ownsRow_setCell_other
def qc6:=@World.cell?_setCell_same
def qc7:=@List.ext_getElem
def qc8:=@Go.RowKit.Below.alloc
def qc9:=@List.mem_cons_of_mem
def qda:=@List.sum_cons
def qdb:=@heap_setCell_same
def qdc:=@List.ext_getElem?
def qdd:=@List.length_pos_iff
def qde:=@List.getElem?_range
def qdf:=@List.getD_eq_getElem?_getD
def qdg:=@Nat.add_zero
def qdh:=@List.length_filter_le
def qdi:=@Go.RowKit.Below.heap_setCell
def qdj:=@List.drop_drop
def qdk:=@Bool.or_eq_false_iff
def qdl:=@wpList_append_own
def qdm:=@List.nodup_append
def qdn:=@List.getElem_append_left
def qdo:=@World.size_alloc
def qdp:=@List.flatMap_map
def qdq:=@List.cons_append
def qdr:=@List.all_eq_true
def qds:=@List.filter_eq_nil_iff
def qdt:=@IntKind.wrap_i64
theorem zI{p:Prop}(h:p):Go.RowKit.Hid p:=Go.Lib.hid h
