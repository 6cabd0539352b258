/-
  Several texts in one: AggOfV, PlaceV, Order.
-/
import Derived.Test.YtcglbbabfkbcbadGreatM2
import Derived.Deep.RegionWith
import Derived.Maps.OwnSet
import Derived.Maps.RangeWalk
import Derived.DeepKeys4
import Derived.Sort.Walk0
/- The package agg: one, Of. -/
namespace Go.Proofs.YtcglbbabfkbcbadGreat
open Go.RowKit

/-- What is known of one value. -/
def oneG (v : Int) : Ag := ⟨1, v / 9223372036854775808, IntKind.u64.wrap v, v, v⟩
theorem Ag.Fit.one {v : Int} (h : -9223372036854775808 ≤ v ∧ v ≤ 9223372036854775807) : (oneG v).Fit := by
  have hu := wrapU_bd v
  refine ⟨⟨by simp [oneG], ?_, ?_, h, h⟩, by simp [oneG]⟩
  · simp only [oneG]; omega
  · simp only [oneG]; omega
set_option maxHeartbeats 1000000 in
theorem one_any (v : Int) (w : World) (h : -9223372036854775808 ≤ v ∧ v ≤ 9223372036854775807) : Calls Tryz.prog 76 #[.int .i64 v] w fun e w' => e = .returned (oneG v).val ∧ Below w.heap.size w w' := by
  obtain ⟨h1, h2⟩ := h
  go_enter Tryz.func76, Tryz.ntmps76
  go_wp2
  exact bodyPost_ret (v := (oneG v).val) (by simp [results, Tryz.results76, go_sem, oneG]) rfl ⟨rfl, (Below.refl _ _).alloc (Nat.le_refl _) _⟩
def ofStep (s : Ag) (v : Int) : Ag := bothG s (oneG v)
def ofL (l : List Int) : Ag := l.foldl ofStep Ag.zero
theorem ofL_snoc (l : List Int) (v : Int) : ofL (l ++ [v]) = ofStep (ofL l) v := by simp [ofL, List.foldl_append]
theorem bd_i64 {z : Int} (h : (Lit.int .i64 z).wf = true) : -9223372036854775808 ≤ z ∧ z ≤ 9223372036854775807 := by
  have : IntKind.i64.min = -9223372036854775808 ∧ IntKind.i64.max = 9223372036854775807 := by decide
  simpa [Lit.wf, this.1, this.2] using h
theorem Ag.Fit.of : ∀ {l : List Int}, (∀ v ∈ l, (Lit.int .i64 v).wf = true) → (ofL l).Fit := by
  intro l
  obtain ⟨m, rfl⟩ : ∃ m : List Int, l = m.reverse := ⟨l.reverse, by simp⟩
  induction m with
  | nil => intro _; exact Ag.Fit.zero
  | cons a r ih =>
    intro h
    rw [List.reverse_cons, ofL_snoc]
    exact (ih (fun x hx => h x (by simp at hx ⊢; exact .inl hx))).both (Ag.Fit.one (bd_i64 (h a (by simp))))
set_option maxRecDepth 100000 in
set_option maxHeartbeats 4000000 in
theorem of_any (A : Option Addr) (n c : Nat) (l : List Int) (w : World) (h : Ints w .i64 A n l) : Calls Tryz.prog 26 #[.slice A n c] w fun e w' => e = .returned (ofL l).val ∧ Below w.heap.size w w' := by
  have hn := h.n_le
  have HL := Lib.hid h.len
  unfold maxLen at hn
  go_enter Tryz.func26, Tryz.ntmps26
  go_wp2
  have B0 : AgBox (w.alloc (.cells #[.int .i64 0, .int .i64 0, .int .u64 0, .int .i64 0, .int .i64 0] 59)) w.heap.size Ag.zero := AgBox.new w Ag.zero
  have B0' := B0.below ((Below.refl _ _).alloc (Nat.le_refl _) (.cells #[.int .i64 0, .int .i64 0, .int .u64 0, .int .i64 0, .int .i64 0] 59))
  have B1 : AgBox ((w.alloc (.cells #[.int .i64 0, .int .i64 0, .int .u64 0, .int .i64 0, .int .i64 0] 59)).alloc (.cells #[.int .i64 0, .int .i64 0, .int .u64 0, .int .i64 0, .int .i64 0] 59)) (w.heap.size + 1) Ag.zero := by
    have := AgBox.new (w.alloc (.cells #[.int .i64 0, .int .i64 0, .int .u64 0, .int .i64 0, .int .i64 0] 59)) Ag.zero
    rw [show (w.alloc (.cells #[.int .i64 0, .int .i64 0, .int .u64 0, .int .i64 0, .int .i64 0] 59)).heap.size = w.heap.size + 1 from by simp] at this
    exact this
  have hb0 : Below w.heap.size w ((w.alloc (.cells #[.int .i64 0, .int .i64 0, .int .u64 0, .int .i64 0, .int .i64 0] 59)).alloc (.cells #[.int .i64 0, .int .i64 0, .int .u64 0, .int .i64 0, .int .i64 0] 59)) := ((Below.refl _ _).alloc (Nat.le_refl _) _).alloc (by simp) _
  go_loopw [8] (fun i wr => ∃ j : Nat, j ≤ n ∧ i = .int .i64 j ∧ AgBox wr (w.heap.size + 1) (ofL (l.take j)) ∧ AgBox wr w.heap.size Ag.zero ∧ Below w.heap.size w wr) (fun i _ => n - (intOf i).toNat)
  case atStart => exact ⟨0, Nat.zero_le _, rfl, B1, B0', hb0⟩
  case round =>
    clear B0 B0' B1 hb0
    obtain ⟨j, hj, rfl, S, Z, hbr⟩ := hrel
    have hS1 := S.lt
    have hZ1 := Z.lt
    by_cases hlt : j < n
    · have K : j < l.length := by rw [HL.out]; exact hlt
      obtain ⟨b, off, rfl, hb, c0⟩ := (h.below hbr).get K
      have HN := Lib.hid (show ofL (l.take (j + 1)) = bothG (ofL (l.take j)) (oneG l[j]) from by rw [List.take_succ_eq_append_getElem K, ofL_snoc]; rfl)
      have HF := Lib.hid (Ag.Fit.of (l := l.take j) (fun a ha => h.wf a (List.mem_of_mem_take ha)))
      have HB := Lib.hid (bd_i64 (h.wf _ (List.getElem_mem K)))
      generalize l[j]'K = x at *
      generalize ofL (l.take j) = s at *
      obtain ⟨s0, s1, s2, s3, s4⟩ := S.cells
      have SD := S.below ((Below.refl wr.heap.size wr).drew)
      have ZD := Z.below ((Below.refl wr.heap.size wr).drew)
      have hbD := hbr.drew
      obtain ⟨d0, d1, d2, d3, d4⟩ := SD.cells
      clear s0 s1 s2 s3 s4
      go_wp2_with fail
      go_region_with (first
        | (go_at_call 76; refine (one_any x _ HB.out).mono ?_; rintro e wq ⟨rfl, hbq⟩
           have S2 := SD.below hbq
           have Z2 := ZD.below hbq
           have hb2 := hbD.trans (hbq.mono hbD.size)
           obtain ⟨e0, e1, e2, e3, e4⟩ := S2.cells)
        | (go_at_call 75; refine (both_any s (oneG x) _ HF.out.ok (Ag.Fit.one HB.out).ok HF.out.cnt (Ag.Fit.one HB.out).cnt).mono ?_; rintro e wp ⟨rfl, hbp⟩
           have S3 := S2.below hbp
           have Z3 := Z2.below hbp
           have hb3 := hb2.trans (hbp.mono hb2.size)
           obtain ⟨p0, p1, p2, p3, p4⟩ := S3.cells
           have f0 := S3.free 0
           have f1 := S3.free 1
           have f2 := S3.free 2
           have f3 := S3.free 3
           have f4 := S3.free 4))
      all_goals
        go_wp2
        go_roundw
        case rel => exact ⟨j + 1, by omega, by go_num, by rw [HN.out]; exact S3.set (bothG s (oneG x)), ((((Z3.other (by simp) _).other (by simp) _).other (by simp) _).other (by simp) _).other (by simp) _, ((((hb3.setCell (by simp) _).setCell (by simp) _).setCell (by simp) _).setCell (by simp) _).setCell (by simp) _⟩
        case measure => simp [intOf]; omega
    · have e1 := Lib.hid (show l.take j = l from List.take_of_length_le (by rw [HL.out]; omega))
      rw [e1.out] at S
      obtain ⟨s0, s1, s2, s3, s4⟩ := S.cells
      obtain ⟨z0, z1, z2, z3, z4⟩ := Z.cells
      have p0 := Z.free 0
      have p1 := Z.free 1
      have p2 := Z.free 2
      have p3 := Z.free 3
      have p4 := Z.free 4
      go_wp2
      have R := Z.set (ofL l)
      have hfin : Below w.heap.size w (((((wr.setCell ⟨w.heap.size, 0, none⟩ (.int .i64 (ofL l).c)).setCell ⟨w.heap.size, 1, none⟩ (.int .i64 (ofL l).hi)).setCell ⟨w.heap.size, 2, none⟩ (.int .u64 (ofL l).lo)).setCell ⟨w.heap.size, 3, none⟩ (.int .i64 (ofL l).mn)).setCell ⟨w.heap.size, 4, none⟩ (.int .i64 (ofL l).mx)) := ((((hbr.setCell (by simp) _).setCell (by simp) _).setCell (by simp) _).setCell (by simp) _).setCell (by simp) _
      generalize (((((wr.setCell ⟨w.heap.size, 0, none⟩ (.int .i64 (ofL l).c)).setCell ⟨w.heap.size, 1, none⟩ (.int .i64 (ofL l).hi)).setCell ⟨w.heap.size, 2, none⟩ (.int .u64 (ofL l).lo)).setCell ⟨w.heap.size, 3, none⟩ (.int .i64 (ofL l).mn)).setCell ⟨w.heap.size, 4, none⟩ (.int .i64 (ofL l).mx)) = W at R hfin ⊢
      obtain ⟨r0, r1, r2, r3, r4⟩ := R.cells
      exact bodyPost_ret (v := (ofL l).val) (by simp [results, Tryz.results26, go_sem, r0, r1, r2, r3, r4]) rfl ⟨rfl, hfin⟩
end Go.Proofs.YtcglbbabfkbcbadGreat
/- Places of a table as keys of a map; what is known of values as its elements. -/
namespace Go.Proofs.YtcglbbabfkbcbadGreat
open Go.RowKit Go.Maps

/-- What a place reads as. -/
def klit (s : ByteArray) (n : Int) : Lit := .string (keyBytes [.string s.data.toList, .int .i64 n])
abbrev placeV (s : ByteArray) (n : Int) : Value := .agg #[.string s, .int .i64 n]
theorem types_pos : ∃ m, Tryz.prog.types.size = m + 1 := by
  have h : 0 < Tryz.prog.types.size := of_decide_eq_true (by kernel_rfl)
  exact ⟨Tryz.prog.types.size - 1, by omega⟩
theorem place_law : Keyed Tryz.prog 83 := Keyed.of_law (deep_law_laid (by kernel_rfl) (m := 3) (by omega) (of_decide_eq_true (by kernel_rfl)) (by kernel_rfl) (by kernel_rfl))
theorem key_mk {s : ByteArray} {n : Int} (hs : s.size ≤ maxLen) (hn : (Lit.int .i64 n).wf = true) : keyOf Tryz.prog 83 (placeV s n) = some (klit s n) := by
  obtain ⟨m, hm⟩ := types_pos
  have h1 : Tryz.prog.keyType 83 = true := by kernel_rfl
  have h2 : (placeV s n).formed Tryz.prog 83 = true := by
    have hc : Tryz.prog.cellsOf 83 = 2 := by kernel_rfl
    simp [Value.formed, Tryz.underlying83, hc]
  have hc : Tryz.prog.cellsOf 83 = 2 := by kernel_rfl
  have c3 : Tryz.prog.cellsOf 3 = 1 := by kernel_rfl
  have c9 : Tryz.prog.cellsOf 9 = 1 := by kernel_rfl
  have h3 : Tryz.prog.keyLits (Tryz.prog.types.size + 1) 83 (placeV s n).cells.toList = some [.string s.data.toList, .int .i64 n] := by
    rw [hm]
    simp [Program.keyLits, Value.cells, Tryz.underlying83, Tryz.underlying9, Tryz.underlying3, hc, c3, c9, hs, hn]
  unfold keyOf
  rw [Tryz.underlying83]
  simp only [h1, h2, Bool.and_self, if_true, h3, Option.map_some]
  rfl
end Go.Proofs.YtcglbbabfkbcbadGreat
/- The order of texts and of records: plain laws. -/
namespace Go.Proofs.YtcglbbabfkbcbadGreat
open Go.RowKit

theorem bl_lt (a b : List UInt8) : Op.bytesLess a b = decide (a < b) := Go.Proofs.bytesLess_eq a b
theorem bl_irrefl (a : List UInt8) : Op.bytesLess a a = false := by rw [bl_lt]; simp
theorem bl_trans {a b c : List UInt8} (h : Op.bytesLess a b = true) (k : Op.bytesLess b c = true) : Op.bytesLess a c = true := by
  rw [bl_lt, decide_eq_true_iff] at *; exact List.lt_trans h k
theorem bl_asymm {a b : List UInt8} (h : Op.bytesLess a b = true) : Op.bytesLess b a = false := by
  cases k : Op.bytesLess b a
  · rfl
  · have := bl_trans h k; rw [bl_irrefl] at this; cases this
theorem bl_total {a b : List UInt8} (h : Op.bytesLess a b = false) (k : Op.bytesLess b a = false) : a = b := by
  rw [bl_lt, decide_eq_false_iff_not] at *; exact List.le_antisymm (List.not_lt.1 k) (List.not_lt.1 h)
/-- A record stands ahead of another one. -/
def ahead (a : List UInt8) (x : Int) (b : List UInt8) (y : Int) : Prop := Op.bytesLess a b = true ∨ (a = b ∧ x < y)
theorem cmpR_neg (a : List UInt8) (x : Int) (b : List UInt8) (y : Int) : cmpR a x b y < 0 ↔ ahead a x b y := by
  unfold cmpR cmpS cmpI ahead
  cases h : Op.bytesLess a b
  · by_cases e : a = b
    · subst e
      simp
      by_cases h2 : x < y
      · simp [h2]
      · by_cases h3 : y < x <;> simp [h2, h3]
    · simp [e]
  · simp
def aheadB (a : List UInt8) (x : Int) (b : List UInt8) (y : Int) : Bool := decide (cmpR a x b y < 0)
theorem aheadB_iff (a : List UInt8) (x : Int) (b : List UInt8) (y : Int) : aheadB a x b y = true ↔ ahead a x b y := by
  unfold aheadB; rw [decide_eq_true_iff]; exact cmpR_neg a x b y
theorem ahead_irrefl (a : List UInt8) (x : Int) : ¬ ahead a x a x := by
  unfold ahead; rw [bl_irrefl]; simp
theorem ahead_trans {a b c : List UInt8} {x y z : Int} (h : ahead a x b y) (k : ahead b y c z) : ahead a x c z := by
  rcases h with h | ⟨rfl, h⟩
  · rcases k with k | ⟨rfl, k⟩
    · exact .inl (bl_trans h k)
    · exact .inl h
  · rcases k with k | ⟨rfl, k⟩
    · exact .inl k
    · exact .inr ⟨rfl, by omega⟩
theorem ahead_total {a b : List UInt8} {x y : Int} (h : ¬ ahead a x b y) (k : ¬ ahead b y a x) : a = b ∧ x = y := by
  unfold ahead at h k
  have e : a = b := by
    apply bl_total
    · cases hh : Op.bytesLess a b
      · rfl
      · exact absurd (.inl hh) h
    · cases hh : Op.bytesLess b a
      · rfl
      · exact absurd (.inl hh) k
  subst e
  refine ⟨rfl, ?_⟩
  have h1 : ¬ x < y := fun hh => h (.inr ⟨rfl, hh⟩)
  have h2 : ¬ y < x := fun hh => k (.inr ⟨rfl, hh⟩)
  omega
theorem aheadB_irrefl (a : List UInt8) (x : Int) : aheadB a x a x = false := by
  cases h : aheadB a x a x
  · rfl
  · exact absurd ((aheadB_iff _ _ _ _).1 h) (ahead_irrefl a x)
theorem aheadB_trans {a b c : List UInt8} {x y z : Int} (h : aheadB a x b y = true) (k : aheadB b y c z = true) : aheadB a x c z = true :=
  (aheadB_iff _ _ _ _).2 (ahead_trans ((aheadB_iff _ _ _ _).1 h) ((aheadB_iff _ _ _ _).1 k))
theorem aheadB_asymm {a b : List UInt8} {x y : Int} (h : aheadB a x b y = true) : aheadB b y a x = false := by
  cases k : aheadB b y a x
  · rfl
  · have := aheadB_trans h k; rw [aheadB_irrefl] at this; cases this
theorem aheadB_total {a b : List UInt8} {x y : Int} (h : aheadB a x b y = false) (k : aheadB b y a x = false) : a = b ∧ x = y :=
  ahead_total (fun hh => by rw [(aheadB_iff _ _ _ _).2 hh] at h; cases h) (fun hh => by rw [(aheadB_iff _ _ _ _).2 hh] at k; cases k)
end Go.Proofs.YtcglbbabfkbcbadGreat
