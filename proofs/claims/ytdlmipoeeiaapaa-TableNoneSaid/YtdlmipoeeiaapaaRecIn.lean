/-
  Slices of records that came in; sedimentbook.Few.
-/
import Derived.Test.YtdlmipoeeiaapaaStructs
import Derived.Test.YtdlmipoeeiaapaaTableRecs
namespace Go.Proofs.Ytdlmipoeeiaapaa
open Go.ChangeShapes Go.WideShapes Go.Deep Go.RowKit

theorem bd_u64 {z : Int} (h : (Lit.int .u64 z).wf = true) : 0 ≤ z ∧ z ≤ 18446744073709551615 := by
  have : IntKind.u64.min = 0 ∧ IntKind.u64.max = 18446744073709551615 := by decide
  simpa [Lit.wf, this.1, this.2] using h

set_option maxRecDepth 100000 in
theorem ag_of_trod {H : Type} {enc : TypeId × Value → H} {w : World} {base : Nat} {spare : Nat → Bool} {held : Bool} {m : Nat} {cs : List Value} {y : DataW H × List MemPlace} (h : DataW.trod enc Try.prog w base spare held m 32 cs = some y) :
    ∃ a : Ag, cs = a.cells ∧ a.Ok := by
  obtain ⟨xs, n, _, _, hl, hxl, hf⟩ := DataW.trod_struct Try.underlying32 h
  have hC : Try.prog.cellsOf 32 = 5 := by kernel_rfl
  rw [hC] at hl
  have hxn : xs.length = 5 := hxl
  match cs, hl with
  | [c0, c1, c2, c3, c4], _ =>
    have at_ : ∀ i, i < 5 → ∃ z, xs[i]? = some z := fun i hi => ⟨_, List.getElem?_eq_getElem (by omega)⟩
    obtain ⟨y0, e0⟩ := at_ 0 (by omega)
    obtain ⟨y1, e1⟩ := at_ 1 (by omega)
    obtain ⟨y2, e2⟩ := at_ 2 (by omega)
    obtain ⟨y3, e3⟩ := at_ 3 (by omega)
    obtain ⟨y4, e4⟩ := at_ 4 (by omega)
    have k0 : Try.prog.cellsOf 3 = 1 := by kernel_rfl
    have t0 : DataW.trod enc Try.prog w base spare held n 3 [c0] = some y0 := by
      rw [← e0, ← hf 0 _ rfl]; show _ = DataW.trod enc Try.prog w base spare held n 3 (List.take (Try.prog.cellsOf 3) [c0, c1, c2, c3, c4]); rw [k0]; rfl
    have k1 : Try.prog.cellsOf 3 = 1 := by kernel_rfl
    have t1 : DataW.trod enc Try.prog w base spare held n 3 [c1] = some y1 := by
      rw [← e1, ← hf 1 _ rfl]; show _ = DataW.trod enc Try.prog w base spare held n 3 (List.take (Try.prog.cellsOf 3) [c1, c2, c3, c4]); rw [k1]; rfl
    have k2 : Try.prog.cellsOf 30 = 1 := by kernel_rfl
    have t2 : DataW.trod enc Try.prog w base spare held n 30 [c2] = some y2 := by
      rw [← e2, ← hf 2 _ rfl]; show _ = DataW.trod enc Try.prog w base spare held n 30 (List.take (Try.prog.cellsOf 30) [c2, c3, c4]); rw [k2]; rfl
    have k3 : Try.prog.cellsOf 3 = 1 := by kernel_rfl
    have t3 : DataW.trod enc Try.prog w base spare held n 3 [c3] = some y3 := by
      rw [← e3, ← hf 3 _ rfl]; show _ = DataW.trod enc Try.prog w base spare held n 3 (List.take (Try.prog.cellsOf 3) [c3, c4]); rw [k3]; rfl
    have k4 : Try.prog.cellsOf 3 = 1 := by kernel_rfl
    have t4 : DataW.trod enc Try.prog w base spare held n 3 [c4] = some y4 := by
      rw [← e4, ← hf 4 _ rfl]; show _ = DataW.trod enc Try.prog w base spare held n 3 (List.take (Try.prog.cellsOf 3) [c4]); rw [k4]; rfl
    obtain ⟨a0, h0, _, w0⟩ := DataW.trod_int Try.underlying3 t0
    injection h0 with h0
    obtain ⟨a1, h1, _, w1⟩ := DataW.trod_int Try.underlying3 t1
    injection h1 with h1
    obtain ⟨a2, h2, _, w2⟩ := DataW.trod_int Try.underlying30 t2
    injection h2 with h2
    obtain ⟨a3, h3, _, w3⟩ := DataW.trod_int Try.underlying3 t3
    injection h3 with h3
    obtain ⟨a4, h4, _, w4⟩ := DataW.trod_int Try.underlying3 t4
    injection h4 with h4
    subst h0 h1 h2 h3 h4
    exact ⟨⟨a0, a1, a2, a3, a4⟩, rfl, bd_i64 w0, bd_i64 w1, bd_u64 w2, bd_i64 w3, bd_i64 w4⟩
set_option maxRecDepth 100000 in
theorem rec_of_trod {H : Type} {enc : TypeId × Value → H} {w : World} {base : Nat} {spare : Nat → Bool} {held : Bool} {m : Nat} {cs : List Value} {y : DataW H × List MemPlace} (h : DataW.trod enc Try.prog w base spare held m 34 cs = some y) :
    ∃ r : Rc, cs = r.cells ∧ r.nm.size ≤ maxLen ∧ (Lit.int .i64 r.st).wf = true ∧ r.ag.Ok := by
  obtain ⟨xs, n, _, _, hl, hxl, hf⟩ := DataW.trod_struct Try.underlying34 h
  have hC : Try.prog.cellsOf 34 = 7 := by kernel_rfl
  rw [hC] at hl
  have hxn : xs.length = 3 := hxl
  match cs, hl with
  | [c0, c1, c2, c3, c4, c5, c6], _ =>
    have at_ : ∀ i, i < 3 → ∃ z, xs[i]? = some z := fun i hi => ⟨_, List.getElem?_eq_getElem (by omega)⟩
    obtain ⟨y0, e0⟩ := at_ 0 (by omega)
    obtain ⟨y1, e1⟩ := at_ 1 (by omega)
    obtain ⟨y2, e2⟩ := at_ 2 (by omega)
    have k0 : Try.prog.cellsOf 9 = 1 := by kernel_rfl
    have t0 : DataW.trod enc Try.prog w base spare held n 9 [c0] = some y0 := by
      rw [← e0, ← hf 0 _ rfl]; show _ = DataW.trod enc Try.prog w base spare held n 9 (List.take (Try.prog.cellsOf 9) [c0, c1, c2, c3, c4, c5, c6]); rw [k0]; rfl
    have k1 : Try.prog.cellsOf 3 = 1 := by kernel_rfl
    have t1 : DataW.trod enc Try.prog w base spare held n 3 [c1] = some y1 := by
      rw [← e1, ← hf 1 _ rfl]; show _ = DataW.trod enc Try.prog w base spare held n 3 (List.take (Try.prog.cellsOf 3) [c1, c2, c3, c4, c5, c6]); rw [k1]; rfl
    have k2 : Try.prog.cellsOf 32 = 5 := by kernel_rfl
    have t2 : DataW.trod enc Try.prog w base spare held n 32 [c2, c3, c4, c5, c6] = some y2 := by
      rw [← e2, ← hf 2 _ rfl]; show _ = DataW.trod enc Try.prog w base spare held n 32 (List.take (Try.prog.cellsOf 32) [c2, c3, c4, c5, c6]); rw [k2]; rfl
    obtain ⟨a0, h0, _, w0⟩ := DataW.trod_string Try.underlying9 t0
    obtain ⟨a1, h1, _, w1⟩ := DataW.trod_int Try.underlying3 t1
    obtain ⟨ag, h2, w2⟩ := ag_of_trod t2
    injection h0 with h0
    injection h1 with h1
    obtain ⟨g0, g1, g2, g3, g4⟩ := ag
    simp only [Ag.cells, List.cons.injEq, and_true] at h2
    obtain ⟨rfl, rfl, rfl, rfl, rfl⟩ := h2
    subst h0 h1
    exact ⟨⟨a0, a1, ⟨g0, g1, g2, g3, g4⟩⟩, rfl, w0, w1, w2⟩
theorem rcs_of_open {H : Type} {enc : TypeId × Value → H} {w : World} {base : Nat} {spare : Nat → Bool} {held : Bool} {A : Option Addr} {n c : Nat} {d : DataW H} {p : List MemPlace}
    (h : DataW.Trod enc Try.prog w base spare held 22 (.slice A n c) d p) : ∃ l, Rcs w A n l := by
  have hC : Try.prog.cellsOf 34 = 7 := by kernel_rfl
  obtain ⟨hn, hr⟩ := rows_of_open Try.underlying22 (by rw [hC]; omega) h
  obtain ⟨l, hl, hp⟩ := exists_list (P := fun i (r : Rc) => (r.nm.size ≤ maxLen ∧ (Lit.int .i64 r.st).wf = true ∧ r.ag.Ok) ∧ ∃ b off, A = some ⟨b, off, none⟩ ∧ b < w.heap.size ∧ ∀ j u, r.cells[j]? = some u → w.cell? ⟨b, off + (i * 7 + j), none⟩ = some u) n (fun i hi => by
    obtain ⟨b, off, cs, m, y, e, hb, _, hc, ht⟩ := hr i hi
    rw [hC] at hc
    obtain ⟨r, rfl, h1, h2, h3⟩ := rec_of_trod ht
    exact ⟨r, ⟨h1, h2, h3⟩, b, off, e, hb, hc⟩)
  have hall : ∀ r ∈ l, r.nm.size ≤ maxLen ∧ (Lit.int .i64 r.st).wf = true ∧ r.ag.Ok := fun r hr => by
    obtain ⟨i, hi, rfl⟩ := List.getElem_of_mem hr
    exact (hp i hi).1
  refine ⟨l, ⟨⟨fun hne => ?_⟩, hl, hn, fun r hr => (hall r hr).1, fun r hr => (hall r hr).2.1, fun r hr => (hall r hr).2.2⟩⟩
  have h0 : 0 < l.length := by
    cases l with
    | nil => exact absurd rfl hne
    | cons a r => simp
  obtain ⟨_, b, off, e, hb, _⟩ := hp 0 h0
  refine ⟨b, off, e, hb, fun j u hu => ?_⟩
  have hj : j < l.length * 7 := by
    have := (List.getElem?_eq_some_iff.1 hu).1
    have hlen : ∀ k : List Rc, (k.flatMap Rc.cells).length = k.length * 7 := fun k => by
      induction k with
      | nil => rfl
      | cons a r ih => rw [List.flatMap_cons, List.length_append, ih, List.length_cons]; show 7 + _ = _; omega
    rwa [hlen] at this
  have hi : j / 7 < l.length := by omega
  obtain ⟨_, b', off', e', _, hc⟩ := hp (j / 7) hi
  rw [e] at e'
  cases e'
  have hg := flatR_get l (j / 7) hi (j % 7) (Nat.mod_lt _ (by omega))
  rw [Nat.div_add_mod' j 7, hu] at hg
  have := hc (j % 7) u hg.symm
  rwa [Nat.div_add_mod' j 7] at this
def FewSays (few : Int) (n : Nat) (w : World) (e : Ending) (w' : World) : Prop := ∃ b : Bool, e = .returned (.bool b) ∧ (b = true → (n : Int) ≤ few) ∧ w = w'
set_option maxRecDepth 100000 in
set_option maxHeartbeats 2000000 in
theorem few_any (few : Int) (A : Option Addr) (n cap : Nat) (l : List Rc) (w : World) (h : Rcs w A n l) (hf : 0 ≤ few ∧ few ≤ 1000) :
    Calls Try.prog 9 #[.int .i64 few, .slice A n cap] w (FewSays few n w) := by
  have hn := h.n_le
  have HL := Lib.hid h.len
  unfold maxLen at hn
  obtain ⟨hf0, hf1⟩ := hf
  go_enter Try.func9, Try.ntmps9
  go_wp2
  go_loop [5] (fun i => ∃ j : Nat, j ≤ n ∧ i = .int .i64 j) (fun i => n - (intOf i).toNat)
  case atStart => exact ⟨0, Nat.zero_le _, rfl⟩
  case round =>
    obtain ⟨j, hj, rfl⟩ := hrel
    have hend : ∀ b : Bool, b = decide ((n : Int) ≤ few) → FewSays few n w (.returned (.bool b)) w := fun b hb => ⟨b, rfl, fun e => by rw [e] at hb; simpa using hb.symm, rfl⟩
    have hno : FewSays few n w (.returned (.bool false)) w := ⟨false, rfl, by simp, rfl⟩
    have HE := Lib.hid hend
    have HN := Lib.hid hno
    clear hend hno
    by_cases hlt : j < n
    · by_cases hjf : (j : Int) < few
      · have K : j < l.length := by rw [HL.out]; exact hlt
        obtain ⟨b, off, rfl, hb, X⟩ := h.get K
        have r0 := X.c0
        have hnm := h.nm _ (List.getElem_mem K)
        unfold maxLen at hnm
        clear X
        generalize (l[j]'K) = x at *
        have g0 : (0 : Int) ≤ (j : Int) := by omega
        have g1 : (j : Int) < (n : Int) := by omega
        by_cases h60 : 60 < x.nm.size
        · go_wp2
          go_ret
          exact HN.out
        · go_wp2
          go_round
          case rel => exact ⟨j + 1, by omega, by go_num⟩
          case measure => simp [intOf]; omega
      · have hd : decide ((j : Int) < few) = false := decide_eq_false hjf
        go_wp2
        go_ret
        exact HE.out _ rfl
    · have hd : decide ((j : Int) < (n : Int)) = false := decide_eq_false (by omega)
      go_wp2
      go_ret
      exact HE.out _ rfl
end Go.Proofs.Ytdlmipoeeiaapaa
