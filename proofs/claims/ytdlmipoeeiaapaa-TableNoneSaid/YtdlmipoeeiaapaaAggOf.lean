/-
  The package agg: one, Of.
-/
import Derived.Test.YtdlmipoeeiaapaaAgg
import Derived.Deep.RegionWith
namespace Go.Proofs.Ytdlmipoeeiaapaa
open Go.RowKit

/-- What is known of one value. -/
def oneG (v : Int) : Ag := ⟨1, v / 9223372036854775808, IntKind.u64.wrap v, v, v⟩
theorem Ag.Fit.one {v : Int} (h : -9223372036854775808 ≤ v ∧ v ≤ 9223372036854775807) : (oneG v).Fit := by
  have hu := wrapU_bd v
  refine ⟨⟨by simp [oneG], ?_, ?_, h, h⟩, by simp [oneG]⟩
  · simp only [oneG]; omega
  · simp only [oneG]; omega
set_option maxHeartbeats 1000000 in
theorem one_any (v : Int) (w : World) (h : -9223372036854775808 ≤ v ∧ v ≤ 9223372036854775807) : Calls Try.prog 48 #[.int .i64 v] w fun e w' => e = .returned (oneG v).val ∧ Below w.heap.size w w' := by
  obtain ⟨h1, h2⟩ := h
  go_enter Try.func48, Try.ntmps48
  go_wp2
  exact bodyPost_ret (v := (oneG v).val) (by simp [results, Try.results48, go_sem, oneG]) rfl ⟨rfl, (Below.refl _ _).alloc (Nat.le_refl _) _⟩
def ofStep (s : Ag) (v : Int) : Ag := bothG s (oneG v)
def ofL (l : List Int) : Ag := l.foldl ofStep Ag.zero
theorem ofL_snoc (l : List Int) (v : Int) : ofL (l ++ [v]) = ofStep (ofL l) v := by simp [ofL, List.foldl_append]
theorem bd_i64 {z : Int} (h : (Lit.int .i64 z).wf = true) : -9223372036854775808 ≤ z ∧ z ≤ 9223372036854775807 := by
  have : IntKind.i64.min = -9223372036854775808 ∧ IntKind.i64.max = 9223372036854775807 := by decide
  simpa [Lit.wf, this.1, this.2] using h
theorem Ag.Fit.of : ∀ {l : List Int}, (∀ v ∈ l, (Lit.int .i64 v).wf = true) → (ofL l).Fit := by
  intro l
  obtain ⟨m, rfl⟩ : ∃ m : List Int, l = m.reverse := ⟨l.reverse, by simp⟩
  induction m with
  | nil => intro _; exact Ag.Fit.zero
  | cons a r ih =>
    intro h
    rw [List.reverse_cons, ofL_snoc]
    exact (ih (fun x hx => h x (by simp at hx ⊢; exact .inl hx))).both (Ag.Fit.one (bd_i64 (h a (by simp))))
set_option maxRecDepth 100000 in
set_option maxHeartbeats 4000000 in
theorem of_any (A : Option Addr) (n c : Nat) (l : List Int) (w : World) (h : Ints w .i64 A n l) : Calls Try.prog 28 #[.slice A n c] w fun e w' => e = .returned (ofL l).val ∧ Below w.heap.size w w' := by
  have hn := h.n_le
  have HL := Lib.hid h.len
  unfold maxLen at hn
  go_enter Try.func28, Try.ntmps28
  go_wp2
  have B0 : AgBox (w.alloc (.cells #[.int .i64 0, .int .i64 0, .int .u64 0, .int .i64 0, .int .i64 0] 32)) w.heap.size Ag.zero := AgBox.new w Ag.zero
  have B0' := B0.below ((Below.refl _ _).alloc (Nat.le_refl _) (.cells #[.int .i64 0, .int .i64 0, .int .u64 0, .int .i64 0, .int .i64 0] 32))
  have B1 : AgBox ((w.alloc (.cells #[.int .i64 0, .int .i64 0, .int .u64 0, .int .i64 0, .int .i64 0] 32)).alloc (.cells #[.int .i64 0, .int .i64 0, .int .u64 0, .int .i64 0, .int .i64 0] 32)) (w.heap.size + 1) Ag.zero := by
    have := AgBox.new (w.alloc (.cells #[.int .i64 0, .int .i64 0, .int .u64 0, .int .i64 0, .int .i64 0] 32)) Ag.zero
    rw [show (w.alloc (.cells #[.int .i64 0, .int .i64 0, .int .u64 0, .int .i64 0, .int .i64 0] 32)).heap.size = w.heap.size + 1 from by simp] at this
    exact this
  have hb0 : Below w.heap.size w ((w.alloc (.cells #[.int .i64 0, .int .i64 0, .int .u64 0, .int .i64 0, .int .i64 0] 32)).alloc (.cells #[.int .i64 0, .int .i64 0, .int .u64 0, .int .i64 0, .int .i64 0] 32)) := ((Below.refl _ _).alloc (Nat.le_refl _) _).alloc (by simp) _
  go_loopw [8] (fun i wr => ∃ j : Nat, j ≤ n ∧ i = .int .i64 j ∧ AgBox wr (w.heap.size + 1) (ofL (l.take j)) ∧ AgBox wr w.heap.size Ag.zero ∧ Below w.heap.size w wr) (fun i _ => n - (intOf i).toNat)
  case atStart => exact ⟨0, Nat.zero_le _, rfl, B1, B0', hb0⟩
  case round =>
    clear B0 B0' B1 hb0
    obtain ⟨j, hj, rfl, S, Z, hbr⟩ := hrel
    have hS1 := S.lt
    have hZ1 := Z.lt
    by_cases hlt : j < n
    · have K : j < l.length := by rw [HL.out]; exact hlt
      obtain ⟨b, off, rfl, hb, c0⟩ := (h.below hbr).get K
      have HN := Lib.hid (show ofL (l.take (j + 1)) = bothG (ofL (l.take j)) (oneG l[j]) from by rw [List.take_succ_eq_append_getElem K, ofL_snoc]; rfl)
      have HF := Lib.hid (Ag.Fit.of (l := l.take j) (fun a ha => h.wf a (List.mem_of_mem_take ha)))
      have HB := Lib.hid (bd_i64 (h.wf _ (List.getElem_mem K)))
      generalize l[j]'K = x at *
      generalize ofL (l.take j) = s at *
      obtain ⟨s0, s1, s2, s3, s4⟩ := S.cells
      have SD := S.below ((Below.refl wr.heap.size wr).drew)
      have ZD := Z.below ((Below.refl wr.heap.size wr).drew)
      have hbD := hbr.drew
      obtain ⟨d0, d1, d2, d3, d4⟩ := SD.cells
      clear s0 s1 s2 s3 s4
      go_wp2_with fail
      go_region_with (first
        | (go_at_call 48; refine (one_any x _ HB.out).mono ?_; rintro e wq ⟨rfl, hbq⟩
           have S2 := SD.below hbq
           have Z2 := ZD.below hbq
           have hb2 := hbD.trans (hbq.mono hbD.size)
           obtain ⟨e0, e1, e2, e3, e4⟩ := S2.cells)
        | (go_at_call 47; refine (both_any s (oneG x) _ HF.out.ok (Ag.Fit.one HB.out).ok HF.out.cnt (Ag.Fit.one HB.out).cnt).mono ?_; rintro e wp ⟨rfl, hbp⟩
           have S3 := S2.below hbp
           have Z3 := Z2.below hbp
           have hb3 := hb2.trans (hbp.mono hb2.size)
           obtain ⟨p0, p1, p2, p3, p4⟩ := S3.cells
           have f0 := S3.free 0
           have f1 := S3.free 1
           have f2 := S3.free 2
           have f3 := S3.free 3
           have f4 := S3.free 4))
      all_goals
        go_wp2
        go_roundw
        case rel => exact ⟨j + 1, by omega, by go_num, by rw [HN.out]; exact S3.set (bothG s (oneG x)), ((((Z3.other (by simp) _).other (by simp) _).other (by simp) _).other (by simp) _).other (by simp) _, ((((hb3.setCell (by simp) _).setCell (by simp) _).setCell (by simp) _).setCell (by simp) _).setCell (by simp) _⟩
        case measure => simp [intOf]; omega
    · have e1 := Lib.hid (show l.take j = l from List.take_of_length_le (by rw [HL.out]; omega))
      rw [e1.out] at S
      obtain ⟨s0, s1, s2, s3, s4⟩ := S.cells
      obtain ⟨z0, z1, z2, z3, z4⟩ := Z.cells
      have p0 := Z.free 0
      have p1 := Z.free 1
      have p2 := Z.free 2
      have p3 := Z.free 3
      have p4 := Z.free 4
      go_wp2
      have R := Z.set (ofL l)
      have hfin : Below w.heap.size w (((((wr.setCell ⟨w.heap.size, 0, none⟩ (.int .i64 (ofL l).c)).setCell ⟨w.heap.size, 1, none⟩ (.int .i64 (ofL l).hi)).setCell ⟨w.heap.size, 2, none⟩ (.int .u64 (ofL l).lo)).setCell ⟨w.heap.size, 3, none⟩ (.int .i64 (ofL l).mn)).setCell ⟨w.heap.size, 4, none⟩ (.int .i64 (ofL l).mx)) := ((((hbr.setCell (by simp) _).setCell (by simp) _).setCell (by simp) _).setCell (by simp) _).setCell (by simp) _
      generalize (((((wr.setCell ⟨w.heap.size, 0, none⟩ (.int .i64 (ofL l).c)).setCell ⟨w.heap.size, 1, none⟩ (.int .i64 (ofL l).hi)).setCell ⟨w.heap.size, 2, none⟩ (.int .u64 (ofL l).lo)).setCell ⟨w.heap.size, 3, none⟩ (.int .i64 (ofL l).mn)).setCell ⟨w.heap.size, 4, none⟩ (.int .i64 (ofL l).mx)) = W at R hfin ⊢
      obtain ⟨r0, r1, r2, r3, r4⟩ := R.cells
      exact bodyPost_ret (v := (ofL l).val) (by simp [results, Try.results28, go_sem, r0, r1, r2, r3, r4]) rfl ⟨rfl, hfin⟩
end Go.Proofs.Ytdlmipoeeiaapaa
