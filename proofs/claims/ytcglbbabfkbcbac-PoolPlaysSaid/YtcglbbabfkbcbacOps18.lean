/-
  The steps of chapter 18 as they came in; sedimentlaw18.Light.
-/
import Derived.Test.YtcglbbabfkbcbacStructs
import Derived.Test.YtcglbbabfkbcbacAlive18
namespace Go.Proofs.Ytcglbbabfkbcbac
open Go.ChangeShapes Go.WideShapes Go.Deep Go.RowKit

structure OpV where
  kind : Int
  n : Int
  A : Option Addr
  len : Nat
  cap : Nat
  zs : List Int
def opCells (o : OpV) : List Value := [.int .i64 o.kind, .int .i64 o.n, .slice o.A o.len o.cap]
structure OpOk (w : World) (o : OpV) : Prop where
  kind : (Lit.int .i64 o.kind).wf = true
  n : (Lit.int .i64 o.n).wf = true
  ints : Ints w .i64 o.A o.len o.zs
set_option maxRecDepth 100000 in
theorem op_of_trod {H : Type} {enc : TypeId × Value → H} {w : World} {base : Nat} {spare : Nat → Bool} {held : Bool} {m : Nat} {cs : List Value} {y : DataW H × List MemPlace} (h : DataW.trod enc Try.prog w base spare held m 45 cs = some y) :
    ∃ o : OpV, cs = opCells o ∧ OpOk w o := by
  obtain ⟨xs, n, _, _, hl, hxl, hf⟩ := DataW.trod_struct Try.underlying45 h
  have hC : Try.prog.cellsOf 45 = 3 := by kernel_rfl
  have k3 : Try.prog.cellsOf 3 = 1 := by kernel_rfl
  have k9 : Try.prog.cellsOf 9 = 1 := by kernel_rfl
  have k27 : Try.prog.cellsOf 43 = 1 := by kernel_rfl
  rw [hC] at hl
  have hx5 : xs.length = 3 := hxl
  match cs, hl with
  | [c0, c1, c2], _ =>
    have at_ : ∀ i, i < 3 → ∃ z, xs[i]? = some z := fun i hi => ⟨_, List.getElem?_eq_getElem (by omega)⟩
    obtain ⟨y0, e0⟩ := at_ 0 (by omega)
    obtain ⟨y1, e1⟩ := at_ 1 (by omega)
    obtain ⟨y2, e2⟩ := at_ 2 (by omega)
    have t0 : DataW.trod enc Try.prog w base spare held n 3 [c0] = some y0 := by
      rw [← e0, ← hf 0 _ rfl]; show _ = DataW.trod enc Try.prog w base spare held n 3 (List.take (Try.prog.cellsOf 3) [c0, c1, c2]); rw [k3]; rfl
    have t1 : DataW.trod enc Try.prog w base spare held n 3 [c1] = some y1 := by
      rw [← e1, ← hf 1 _ rfl]; show _ = DataW.trod enc Try.prog w base spare held n 3 (List.take (Try.prog.cellsOf 3) [c1, c2]); rw [k3]; rfl
    have t2 : DataW.trod enc Try.prog w base spare held n 43 [c2] = some y2 := by
      rw [← e2, ← hf 2 _ rfl]; show _ = DataW.trod enc Try.prog w base spare held n 43 (List.take (Try.prog.cellsOf 43) [c2]); rw [k27]; rfl
    obtain ⟨a0, h0, _, w0⟩ := DataW.trod_int Try.underlying3 t0
    obtain ⟨a1, h1, _, w1⟩ := DataW.trod_int Try.underlying3 t1
    injection h0 with h0
    injection h1 with h1
    subst h0 h1
    have key : ∃ A len cap zs, c2 = .slice A len cap ∧ Ints w .i64 A len zs := by
      have hs : ∃ A len cap, c2 = .slice A len cap := by
        rcases open_ints Try.underlying43 Try.underlying3 k3 t2 with ⟨e, _⟩ | ⟨a, l, c, zs, e, _⟩
        · injection e with e; exact ⟨_, _, _, e⟩
        · injection e with e; exact ⟨_, _, _, e⟩
      obtain ⟨A, len, cap, rfl⟩ := hs
      obtain ⟨zs, hz⟩ := ints_of_open (n := len) (c := cap) Try.underlying43 Try.underlying3 k3 (show DataW.Trod enc Try.prog w base spare held 43 (.slice A len cap) y2.1 y2.2 from ⟨n, t2⟩)
      exact ⟨A, len, cap, zs, rfl, hz⟩
    obtain ⟨A, len, cap, zs, rfl, hz⟩ := key
    exact ⟨⟨a0, a1, A, len, cap, zs⟩, rfl, w0, w1, hz⟩
/-- A slice of steps. -/
structure Ops (w : World) (A : Option Addr) (n : Nat) (os : List OpV) : Prop where
  len : os.length = n
  n_le : n ≤ maxLen
  ok : ∀ o ∈ os, OpOk w o
  at_ : ∀ i (h : i < os.length), ∃ b off, A = some ⟨b, off, none⟩ ∧ b < w.heap.size ∧ ∀ j u, (opCells os[i])[j]? = some u → w.cell? ⟨b, off + (i * 3 + j), none⟩ = some u
theorem Ops.below {w w' : World} {A : Option Addr} {n : Nat} {os : List OpV} (h : Ops w A n os) (hb : Below w.heap.size w w') : Ops w' A n os :=
  ⟨h.len, h.n_le, fun o ho => ⟨(h.ok o ho).kind, (h.ok o ho).n, (h.ok o ho).ints.below hb⟩, fun i hi => by
    obtain ⟨b, off, e, hlt, hc⟩ := h.at_ i hi
    exact ⟨b, off, e, Nat.lt_of_lt_of_le hlt hb.size, fun j u hu => (hb.cell (p := ⟨b, off + (i * 3 + j), none⟩) hlt).trans (hc j u hu)⟩⟩
theorem ops_of_open {H : Type} {enc : TypeId × Value → H} {w : World} {base : Nat} {spare : Nat → Bool} {held : Bool} {A : Option Addr} {n c : Nat} {d : DataW H} {p : List MemPlace}
    (h : DataW.Trod enc Try.prog w base spare held 22 (.slice A n c) d p) : ∃ os, Ops w A n os := by
  have hC : Try.prog.cellsOf 45 = 3 := by kernel_rfl
  obtain ⟨hn, hr⟩ := rows_of_open Try.underlying22 (by rw [hC]; omega) h
  obtain ⟨os, hl, hp⟩ := exists_list (P := fun i (o : OpV) => OpOk w o ∧ ∃ b off, A = some ⟨b, off, none⟩ ∧ b < w.heap.size ∧ ∀ j u, (opCells o)[j]? = some u → w.cell? ⟨b, off + (i * 3 + j), none⟩ = some u) n (fun i hi => by
    obtain ⟨b, off, cs, m, y, e, hb, _, hc, ht⟩ := hr i hi
    rw [hC] at hc
    obtain ⟨o, rfl, ho⟩ := op_of_trod ht
    exact ⟨o, ho, b, off, e, hb, hc⟩)
  refine ⟨os, hl, hn, fun o ho => ?_, fun i hi => (hp i hi).2⟩
  obtain ⟨i, hi, rfl⟩ := List.getElem_of_mem ho
  exact (hp i hi).1
/-- What is known of a step at its place. -/
theorem Ops.cells {w : World} {A : Option Addr} {n : Nat} {os : List OpV} (h : Ops w A n os) {i : Nat} (hi : i < os.length) : ∃ b off, A = some ⟨b, off, none⟩ ∧ b < w.heap.size ∧
    w.cell? ⟨b, off + i * 3, none⟩ = some (.int .i64 os[i].kind) ∧ w.cell? ⟨b, off + i * 3 + 1, none⟩ = some (.int .i64 os[i].n) ∧ w.cell? ⟨b, off + i * 3 + 2, none⟩ = some (.slice os[i].A os[i].len os[i].cap) := by
  obtain ⟨b, off, e, hb, hc⟩ := h.at_ i hi
  simp only [← Nat.add_assoc] at hc
  exact ⟨b, off, e, hb, hc 0 _ rfl, hc 1 _ rfl, hc 2 _ rfl⟩
def LightSays (n : Nat) (os : List OpV) (w : World) (e : Ending) (w' : World) : Prop :=
  ∃ b : Bool, e = .returned (.bool b) ∧ (b = true → n ≤ 60 ∧ ∀ o ∈ os, o.len ≤ 60) ∧ Below w.heap.size w w'
set_option maxRecDepth 100000 in
set_option maxHeartbeats 2000000 in
theorem light_any (A : Option Addr) (n cap : Nat) (os : List OpV) (w : World) (h : Ops w A n os) :
    Calls Try.prog 4 #[.slice A n cap] w (LightSays n os w) := by
  have hn := h.n_le
  have HL := Lib.hid h.len
  unfold maxLen at hn
  go_enter Try.func4, Try.ntmps4
  go_wp2
  go_loopw [3] (fun i wr => ∃ j : Nat, j ≤ n ∧ j ≤ 200 ∧ i = .int .i64 j ∧ (∀ o ∈ os.take j, o.len ≤ 60) ∧ Below w.heap.size w wr) (fun i _ => n - (intOf i).toNat)
  case atStart => exact ⟨0, Nat.zero_le _, by omega, rfl, by simp, Below.refl _ _⟩
  case round =>
    obtain ⟨j, hj, hj2, rfl, hall, hbel⟩ := hrel
    have HA := Lib.hid hall
    clear hall
    by_cases hlt : j < n
    · by_cases h200 : j < 200
      · have K : j < os.length := by rw [HL.out]; exact hlt
        have hob := h.below hbel
        obtain ⟨b, off, rfl, hb, x0, x1, x2⟩ := hob.cells K
        have HO := hob.ok _ (List.getElem_mem K)
        have l3 := HO.ints.n_le
        unfold maxLen at l3
        have HNX : os[j].len ≤ 60 → ∀ o ∈ os.take (j + 1), o.len ≤ 60 := fun h1 o ho => by
          rw [List.take_succ_eq_append_getElem K] at ho
          rcases List.mem_append.1 ho with ho | ho
          · exact HA.out o ho
          · simp at ho; subst ho; exact h1
        have HN := Lib.hid HNX
        clear HNX HO hob x0 x1
        generalize os[j]'K = o at *
        by_cases y1 : 60 < o.len
        · go_wp2
          go_ret
          exact ⟨false, rfl, by simp, hbel⟩
        · go_wp2
          go_roundw
          case rel => exact ⟨j + 1, by omega, by omega, by go_num, HN.out (by omega), hbel⟩
          case measure => simp [intOf]; omega
      · have hd : decide ((n : Int) ≤ 60) = false := decide_eq_false (by omega)
        have hn60 : ¬ n ≤ 60 := by omega
        go_wp2
        go_ret
        exact ⟨false, rfl, by simp, hbel⟩
    · have hd0 : decide ((j : Int) < (n : Int)) = false := decide_eq_false (by omega)
      have hT := Lib.hid (show os.take j = os from List.take_of_length_le (by rw [HL.out]; omega))
      by_cases hn60 : n ≤ 60
      · have hd : decide ((n : Int) ≤ 60) = true := decide_eq_true (by omega)
        go_wp2
        go_ret
        exact ⟨true, rfl, fun _ => ⟨hn60, by have := HA.out; rw [hT.out] at this; exact this⟩, hbel⟩
      · have hd : decide ((n : Int) ≤ 60) = false := decide_eq_false (by omega)
        go_wp2
        go_ret
        exact ⟨false, rfl, by simp, hbel⟩
end Go.Proofs.Ytcglbbabfkbcbac
