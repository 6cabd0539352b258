/-
  Policies and samples that came in; sedimentbook.Small, Some.
-/
import Derived.Test.YtcglbbabfkbcbadGreatM9
import Derived.Test.YtcglbbabfkbcbadGreatM7
import Derived.OpenShut
namespace Go.Proofs.YtcglbbabfkbcbadGreat
open Go.ChangeShapes Go.WideShapes Go.ChangeAt Go.RowKit Go.Deep

section
variable {H : Type} {enc : TypeId × Value → H} {w : World} {base : Nat} {spare : Nat → Bool} {held : Bool}
set_option maxRecDepth 100000 in
theorem ti_of_trod {m : Nat} {cs : List Value} {y : DataW H × List MemPlace} (h : DataW.trod enc Tryz.prog w base spare held m 31 cs = some y) : ∃ t : Ti, cs = t.cells ∧ t.Ok := by
  obtain ⟨xs, n, _, _, hl, hxl, hf⟩ := DataW.trod_struct Tryz.underlying31 h
  have hC : Tryz.prog.cellsOf 31 = 4 := by kernel_rfl
  rw [hC] at hl
  have hxn : xs.length = 4 := hxl
  match cs, hl with
  | [c0, c1, c2, c3], _ =>
    have at_ : ∀ i, i < 4 → ∃ z, xs[i]? = some z := fun i hi => ⟨_, List.getElem?_eq_getElem (by omega)⟩
    obtain ⟨y0, e0⟩ := at_ 0 (by omega)
    obtain ⟨y1, e1⟩ := at_ 1 (by omega)
    obtain ⟨y2, e2⟩ := at_ 2 (by omega)
    obtain ⟨y3, e3⟩ := at_ 3 (by omega)
    have ks : Tryz.prog.cellsOf 9 = 1 := by kernel_rfl
    have ki : Tryz.prog.cellsOf 3 = 1 := by kernel_rfl
    have t0 : DataW.trod enc Tryz.prog w base spare held n 9 [c0] = some y0 := by
      rw [← e0, ← hf 0 _ rfl]; show _ = DataW.trod enc Tryz.prog w base spare held n 9 (List.take (Tryz.prog.cellsOf 9) [c0, c1, c2, c3]); rw [ks]; rfl
    have t1 : DataW.trod enc Tryz.prog w base spare held n 3 [c1] = some y1 := by
      rw [← e1, ← hf 1 _ rfl]; show _ = DataW.trod enc Tryz.prog w base spare held n 3 (List.take (Tryz.prog.cellsOf 3) [c1, c2, c3]); rw [ki]; rfl
    have t2 : DataW.trod enc Tryz.prog w base spare held n 3 [c2] = some y2 := by
      rw [← e2, ← hf 2 _ rfl]; show _ = DataW.trod enc Tryz.prog w base spare held n 3 (List.take (Tryz.prog.cellsOf 3) [c2, c3]); rw [ki]; rfl
    have t3 : DataW.trod enc Tryz.prog w base spare held n 3 [c3] = some y3 := by
      rw [← e3, ← hf 3 _ rfl]; show _ = DataW.trod enc Tryz.prog w base spare held n 3 (List.take (Tryz.prog.cellsOf 3) [c3]); rw [ki]; rfl
    obtain ⟨a0, h0, _, w0⟩ := DataW.trod_string Tryz.underlying9 t0
    obtain ⟨a1, h1, _, w1⟩ := DataW.trod_int Tryz.underlying3 t1
    obtain ⟨a2, h2, _, w2⟩ := DataW.trod_int Tryz.underlying3 t2
    obtain ⟨a3, h3, _, w3⟩ := DataW.trod_int Tryz.underlying3 t3
    injection h0 with h0
    injection h1 with h1
    injection h2 with h2
    injection h3 with h3
    subst h0 h1 h2 h3
    exact ⟨⟨a0, a1, a2, a3⟩, rfl, w0, bd_i64' w1, bd_i64' w2, bd_i64' w3⟩
set_option maxRecDepth 100000 in
theorem smp_of_trod {m : Nat} {cs : List Value} {y : DataW H × List MemPlace} (h : DataW.trod enc Tryz.prog w base spare held m 76 cs = some y) : ∃ s : Smp, cs = s.cells ∧ s.Ok := by
  obtain ⟨xs, n, _, _, hl, hxl, hf⟩ := DataW.trod_struct Tryz.underlying76 h
  have hC : Tryz.prog.cellsOf 76 = 3 := by kernel_rfl
  rw [hC] at hl
  have hxn : xs.length = 3 := hxl
  match cs, hl with
  | [c0, c1, c2], _ =>
    have at_ : ∀ i, i < 3 → ∃ z, xs[i]? = some z := fun i hi => ⟨_, List.getElem?_eq_getElem (by omega)⟩
    obtain ⟨y0, e0⟩ := at_ 0 (by omega)
    obtain ⟨y1, e1⟩ := at_ 1 (by omega)
    obtain ⟨y2, e2⟩ := at_ 2 (by omega)
    have ks : Tryz.prog.cellsOf 9 = 1 := by kernel_rfl
    have ki : Tryz.prog.cellsOf 3 = 1 := by kernel_rfl
    have t0 : DataW.trod enc Tryz.prog w base spare held n 9 [c0] = some y0 := by
      rw [← e0, ← hf 0 _ rfl]; show _ = DataW.trod enc Tryz.prog w base spare held n 9 (List.take (Tryz.prog.cellsOf 9) [c0, c1, c2]); rw [ks]; rfl
    have t1 : DataW.trod enc Tryz.prog w base spare held n 3 [c1] = some y1 := by
      rw [← e1, ← hf 1 _ rfl]; show _ = DataW.trod enc Tryz.prog w base spare held n 3 (List.take (Tryz.prog.cellsOf 3) [c1, c2]); rw [ki]; rfl
    have t2 : DataW.trod enc Tryz.prog w base spare held n 3 [c2] = some y2 := by
      rw [← e2, ← hf 2 _ rfl]; show _ = DataW.trod enc Tryz.prog w base spare held n 3 (List.take (Tryz.prog.cellsOf 3) [c2]); rw [ki]; rfl
    obtain ⟨a0, h0, _, w0⟩ := DataW.trod_string Tryz.underlying9 t0
    obtain ⟨a1, h1, _, w1⟩ := DataW.trod_int Tryz.underlying3 t1
    obtain ⟨a2, h2, _, w2⟩ := DataW.trod_int Tryz.underlying3 t2
    injection h0 with h0
    injection h1 with h1
    injection h2 with h2
    subst h0 h1 h2
    exact ⟨⟨a0, a1, a2⟩, rfl, w0, bd_i64' w1, bd_i64' w2⟩
/-- Rows of structs that came in, as a list. -/
theorem rows_list {α : Type} {cs : α → List Value} {k : Nat} (hk : ∀ x, (cs x).length = k) (hk0 : 0 < k) {A : Option Addr} {n : Nat} {Q : α → Prop} (hr : ∀ i, i < n → ∃ b off x, A = some ⟨b, off, none⟩ ∧ b < w.heap.size ∧ Q x ∧ ∀ j u, (cs x)[j]? = some u → w.cell? ⟨b, off + (i * k + j), none⟩ = some u) :
    ∃ l : List α, l.length = n ∧ Sl w A (l.flatMap cs) ∧ ∀ x ∈ l, Q x := by
  obtain ⟨l, hl, hp⟩ := exists_list (P := fun i (x : α) => Q x ∧ ∃ b off, A = some ⟨b, off, none⟩ ∧ b < w.heap.size ∧ ∀ j u, (cs x)[j]? = some u → w.cell? ⟨b, off + (i * k + j), none⟩ = some u) n (fun i hi => by
    obtain ⟨b, off, x, h1, h2, h3, h4⟩ := hr i hi
    exact ⟨x, h3, b, off, h1, h2, h4⟩)
  refine ⟨l, hl, ⟨fun hne => ?_⟩, fun x hx => by obtain ⟨i, hi, rfl⟩ := List.getElem_of_mem hx; exact (hp i hi).1⟩
  have h0 : 0 < l.length := by
    cases l with
    | nil => exact absurd rfl hne
    | cons a r => simp
  obtain ⟨_, b, off, e, hb, _⟩ := hp 0 h0
  refine ⟨b, off, e, hb, fun j u hu => ?_⟩
  have hj : j < l.length * k := by have := (List.getElem?_eq_some_iff.1 hu).1; rwa [rowK_len hk] at this
  have hi : j / k < l.length := (Nat.div_lt_iff_lt_mul hk0).2 hj
  obtain ⟨_, b', off', e', _, hc⟩ := hp (j / k) hi
  rw [e] at e'
  cases e'
  have hg := rowK_get hk l (j / k) hi (j % k) (Nat.mod_lt _ hk0)
  rw [Nat.div_add_mod' j k, hu] at hg
  have := hc (j % k) u hg.symm
  rwa [Nat.div_add_mod' j k] at this
theorem tis_of_open {A : Option Addr} {n c : Nat} {d : DataW H} {p : List MemPlace} (h : DataW.Trod enc Tryz.prog w base spare held 22 (.slice A n c) d p) : ∃ l, Tis w A n l := by
  have hC : Tryz.prog.cellsOf 31 = 4 := by kernel_rfl
  obtain ⟨hn, hr⟩ := rows_of_open Tryz.underlying22 (by rw [hC]; omega) h
  obtain ⟨l, hl, hs, hq⟩ := rows_list (w := w) (A := A) (n := n) ti_len (by omega) (Q := Ti.Ok) (fun i hi => by
    obtain ⟨b, off, cs, m, y, e, hb, _, hc, ht⟩ := hr i hi
    rw [hC] at hc
    obtain ⟨t, rfl, h1⟩ := ti_of_trod ht
    exact ⟨b, off, t, e, hb, h1, hc⟩)
  exact ⟨l, hs, hl, hn, hq⟩
theorem smps_of_open {A : Option Addr} {n c : Nat} {d : DataW H} {p : List MemPlace} (h : DataW.Trod enc Tryz.prog w base spare held 26 (.slice A n c) d p) : ∃ l, Smps w A n l := by
  have hC : Tryz.prog.cellsOf 76 = 3 := by kernel_rfl
  obtain ⟨hn, hr⟩ := rows_of_open Tryz.underlying26 (by rw [hC]; omega) h
  obtain ⟨l, hl, hs, hq⟩ := rows_list (w := w) (A := A) (n := n) smp_len (by omega) (Q := Smp.Ok) (fun i hi => by
    obtain ⟨b, off, cs, m, y, e, hb, _, hc, ht⟩ := hr i hi
    rw [hC] at hc
    obtain ⟨t, rfl, h1⟩ := smp_of_trod ht
    exact ⟨b, off, t, e, hb, h1, hc⟩)
  exact ⟨l, hs, hl, hn, hq⟩
/-- An argument that is a policy. -/
structure PolArg (w : World) (v : Value) (x : ByteArray × Option Addr × Nat × Nat × List Ti) : Prop where
  val : v = polV x.1 x.2.1 x.2.2.1 x.2.2.2.1
  nm : x.1.size ≤ maxLen
  ts : Tis w x.2.1 x.2.2.1 x.2.2.2.2
set_option maxRecDepth 100000 in
theorem pol_open {r : Go.Reach} {b0 : Nat} {v : Value} {d : DataW H} {p : List MemPlace} (hv : Value.okWide Tryz.prog w r b0 24 v) (h : DataW.Trod enc Tryz.prog w base spare held 24 v d p) : ∃ x, PolArg w v x := by
  obtain ⟨cs, rfl, _⟩ := okWide_struct Tryz.underlying24 hv
  obtain ⟨fuel, hf⟩ := h
  obtain ⟨xs, n, _, _, hl, hxl, hg⟩ := DataW.trod_struct Tryz.underlying24 hf
  have hC : Tryz.prog.cellsOf 24 = 2 := by kernel_rfl
  have ks : Tryz.prog.cellsOf 9 = 1 := by kernel_rfl
  have kt : Tryz.prog.cellsOf 22 = 1 := by kernel_rfl
  rw [hC] at hl
  obtain ⟨l⟩ := cs
  have hxn : xs.length = 2 := hxl
  have hll : l.length = 2 := by simpa [Value.cells] using hl
  match l, hll with
  | [c0, c1], _ =>
    have at_ : ∀ i, i < 2 → ∃ z, xs[i]? = some z := fun i hi => ⟨_, List.getElem?_eq_getElem (by omega)⟩
    obtain ⟨y0, e0⟩ := at_ 0 (by omega)
    obtain ⟨y1, e1⟩ := at_ 1 (by omega)
    have t0 : DataW.trod enc Tryz.prog w base spare held n 9 [c0] = some y0 := by
      rw [← e0, ← hg 0 _ rfl]; show _ = DataW.trod enc Tryz.prog w base spare held n 9 (List.take (Tryz.prog.cellsOf 9) [c0, c1]); rw [ks]; rfl
    have t1 : DataW.trod enc Tryz.prog w base spare held n 22 [c1] = some y1 := by
      rw [← e1, ← hg 1 _ rfl]; show _ = DataW.trod enc Tryz.prog w base spare held n 22 (List.take (Tryz.prog.cellsOf 22) [c1]); rw [kt]; rfl
    obtain ⟨a0, h0, _, w0⟩ := DataW.trod_string Tryz.underlying9 t0
    injection h0 with h0
    subst h0
    obtain ⟨A, m, c, rfl⟩ : ∃ A m c, c1 = .slice A m c := by
      rcases open_slice Tryz.underlying22 t1 with ⟨hcs, _⟩ | ⟨a, len, cap, _, _, _, _, hcs, _⟩
      · simp at hcs; exact ⟨_, _, _, hcs⟩
      · simp at hcs; exact ⟨_, _, _, hcs⟩
    obtain ⟨ts, hts⟩ := tis_of_open (enc := enc) (base := base) (spare := spare) (held := held) (w := w) (A := A) (n := m) (c := c) (d := y1.1) (p := y1.2) ⟨n, by simpa [Value.cells] using t1⟩
    exact ⟨(a0, A, m, c, ts), rfl, w0, hts⟩
/-- An argument that is samples. -/
structure SmpsArg (w : World) (v : Value) (x : Option Addr × Nat × Nat × List Smp) : Prop where
  val : v = .slice x.1 x.2.1 x.2.2.1
  sm : Smps w x.1 x.2.1 x.2.2.2
set_option maxRecDepth 100000 in
theorem smps_open {r : Go.Reach} {b0 : Nat} {v : Value} {d : DataW H} {p : List MemPlace} (hv : Value.okWide Tryz.prog w r b0 26 v) (h : DataW.Trod enc Tryz.prog w base spare held 26 v d p) : ∃ x, SmpsArg w v x := by
  obtain ⟨a, len, cap, rfl⟩ := okWide_slice Tryz.underlying26 hv
  obtain ⟨l, hl⟩ := smps_of_open h
  exact ⟨(a, len, cap, l), rfl, hl⟩
/-- An argument that is a sample. -/
structure SmpArg (v : Value) (s : Smp) : Prop where
  val : v = .agg #[.string s.nm, .int .i64 s.tm, .int .i64 s.vl]
  ok : s.Ok
set_option maxRecDepth 100000 in
theorem smp_open {r : Go.Reach} {b0 : Nat} {v : Value} {d : DataW H} {p : List MemPlace} (hv : Value.okWide Tryz.prog w r b0 76 v) (h : DataW.Trod enc Tryz.prog w base spare held 76 v d p) : ∃ s, SmpArg v s := by
  obtain ⟨cs, rfl, _⟩ := okWide_struct Tryz.underlying76 hv
  obtain ⟨fuel, hf⟩ := h
  obtain ⟨s, e, h1⟩ := smp_of_trod hf
  obtain ⟨l⟩ := cs
  have e' : l = s.cells := by simpa [Value.cells] using e
  subst e'
  exact ⟨s, rfl, h1⟩
end
def SmallSays (n : Nat) (nm : ByteArray) (w : World) (e : Ending) (w' : World) : Prop := ∃ b : Bool, e = .returned (.bool b) ∧ (b = true → n ≤ 10 ∧ nm.size ≤ 60) ∧ Below w.heap.size w w'
set_option maxRecDepth 100000 in
set_option maxHeartbeats 2000000 in
theorem small_any (nm : ByteArray) (A : Option Addr) (n c : Nat) (ts : List Ti) (w : World) (hnm : nm.size ≤ maxLen) (h : Tis w A n ts) :
    Calls Tryz.prog 4 #[polV nm A n c] w (SmallSays n nm w) := by
  have hn := h.n_le
  have HL := Lib.hid h.len
  unfold maxLen at hn hnm
  have hb0 : Below w.heap.size w (w.alloc (.cells #[.string nm, .slice A n c] 24)) := (Below.refl _ w).alloc (Nat.le_refl _) _
  have HT := Lib.hid (h.below hb0)
  clear h
  have hno : SmallSays n nm w (.returned (.bool false)) (w.alloc (.cells #[.string nm, .slice A n c] 24)) := ⟨false, rfl, by simp, hb0⟩
  have HN := Lib.hid hno
  have hyes : n ≤ 10 → nm.size ≤ 60 → SmallSays n nm w (.returned (.bool true)) (w.alloc (.cells #[.string nm, .slice A n c] 24)) := fun h1 h2 => ⟨true, rfl, fun _ => ⟨h1, h2⟩, hb0⟩
  have HY := Lib.hid hyes
  clear hno hyes
  go_enter Tryz.func4, Tryz.ntmps4
  go_wp2
  go_loop [3] (fun i => ∃ j : Nat, j ≤ n ∧ i = .int .i64 j) (fun i => n - (intOf i).toNat)
  case atStart => exact ⟨0, Nat.zero_le _, rfl⟩
  case round =>
    obtain ⟨j, hj, rfl⟩ := hrel
    have hend : ∀ j : Nat, True := fun _ => trivial
    clear hend
    by_cases hlt : j < n ∧ j < 12
    · obtain ⟨hlt, h12⟩ := hlt
      have K : j < ts.length := by rw [HL.out]; exact hlt
      obtain ⟨b, off, rfl, hb, X⟩ := HT.out.get K
      have r0 := X.c0
      have hnmx := (HT.out.ok _ (List.getElem_mem K)).nm
      unfold maxLen at hnmx
      clear X
      generalize (ts[j]'K) = x at *
      have g0 : (0 : Int) ≤ (j : Int) := by omega
      have g1 : (j : Int) < (n : Int) := by omega
      by_cases h60 : 60 < x.nm.size
      · go_wp2
        go_ret
        exact HN.out
      · go_wp2
        go_round
        case rel => exact ⟨j + 1, by omega, by go_num⟩
        case measure => simp [intOf]; omega
    · by_cases hjn : j < n
      · have hd : decide ((j : Int) < 12) = false := decide_eq_false (by omega)
        have hd2 : decide ((n : Int) ≤ 10) = false := decide_eq_false (by omega)
        go_wp2
        go_ret
        exact HN.out
      · have hd : decide ((j : Int) < (n : Int)) = false := decide_eq_false (by omega)
        by_cases h10 : n ≤ 10
        · by_cases h60 : nm.size ≤ 60
          · have hd2 : decide ((n : Int) ≤ 10) = true := decide_eq_true (by omega)
            have hd3 : decide ((nm.size : Int) ≤ 60) = true := decide_eq_true (by omega)
            have HY2 := Lib.hid (HY.out h10 h60)
            go_wp2
            go_ret
            exact HY2.out
          · have hd2 : decide ((n : Int) ≤ 10) = true := decide_eq_true (by omega)
            have hd3 : decide ((nm.size : Int) ≤ 60) = false := decide_eq_false (by omega)
            go_wp2
            go_ret
            exact HN.out
        · have hd2 : decide ((n : Int) ≤ 10) = false := decide_eq_false (by omega)
          go_wp2
          go_ret
          exact HN.out
def SomeSays (few : Int) (n : Nat) (w : World) (e : Ending) (w' : World) : Prop := ∃ b : Bool, e = .returned (.bool b) ∧ (b = true → (n : Int) ≤ few) ∧ w = w'
set_option maxRecDepth 100000 in
set_option maxHeartbeats 2000000 in
theorem some_any (few : Int) (A : Option Addr) (n cap : Nat) (l : List Smp) (w : World) (h : Smps w A n l) (hf : 0 ≤ few ∧ few ≤ 1000) :
    Calls Tryz.prog 5 #[.int .i64 few, .slice A n cap] w (SomeSays few n w) := by
  have hn := h.n_le
  have HL := Lib.hid h.len
  unfold maxLen at hn
  obtain ⟨hf0, hf1⟩ := hf
  go_enter Tryz.func5, Tryz.ntmps5
  go_wp2
  go_loop [5] (fun i => ∃ j : Nat, j ≤ n ∧ i = .int .i64 j) (fun i => n - (intOf i).toNat)
  case atStart => exact ⟨0, Nat.zero_le _, rfl⟩
  case round =>
    obtain ⟨j, hj, rfl⟩ := hrel
    have hend : ∀ b : Bool, b = decide ((n : Int) ≤ few) → SomeSays few n w (.returned (.bool b)) w := fun b hb => ⟨b, rfl, fun e => by rw [e] at hb; simpa using hb.symm, rfl⟩
    have hno : SomeSays few n w (.returned (.bool false)) w := ⟨false, rfl, by simp, rfl⟩
    have HE := Lib.hid hend
    have HN := Lib.hid hno
    clear hend hno
    by_cases hlt : j < n
    · by_cases hjf : (j : Int) < few
      · have K : j < l.length := by rw [HL.out]; exact hlt
        obtain ⟨b, off, rfl, hb, X⟩ := h.get K
        have r0 := X.c0
        have hnm := (h.ok _ (List.getElem_mem K)).nm
        unfold maxLen at hnm
        clear X
        generalize (l[j]'K) = x at *
        have g0 : (0 : Int) ≤ (j : Int) := by omega
        have g1 : (j : Int) < (n : Int) := by omega
        by_cases h60 : 60 < x.nm.size
        · go_wp2
          go_ret
          exact HN.out
        · go_wp2
          go_round
          case rel => exact ⟨j + 1, by omega, by go_num⟩
          case measure => simp [intOf]; omega
      · have hd : decide ((j : Int) < few) = false := decide_eq_false hjf
        go_wp2
        go_ret
        exact HE.out _ rfl
    · have hd : decide ((j : Int) < (n : Int)) = false := decide_eq_false (by omega)
      go_wp2
      go_ret
      exact HE.out _ rfl
end Go.Proofs.YtcglbbabfkbcbadGreat
