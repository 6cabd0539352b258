/-
  What is printed is read as it was; sedimentref6.Same of two like policies.
-/
import Derived.Test.YtnnamhomapagiaaDoorPolAlive
import Derived.Test.YtnnamhomapagiaaDoorPolIn
namespace Go.Proofs.YtnnamhomapagiaaDoor
open Go.ChangeShapes Go.WideShapes Go.ChangeAt Go.RowKit Go.Deep

theorem mk_toList (s : ByteArray) : (⟨s.toList.toArray⟩ : ByteArray) = s := by rw [ByteArray.toList_eq]
theorem readT_print {nm : List UInt8} {ts : List Ti} (h : checkR nm ts = (0, 0)) : readT ⟨(printL nm ts).toArray⟩ = .good nm ts := by
  obtain ⟨hv, h1, h5, hf, _⟩ := check_fine h
  have hs : (⟨(printL nm ts).toArray⟩ : ByteArray).size ≤ 4000 := by rw [← len_toList, toList_mk]; have := print_len hv hf h5; omega
  have e := parse_back nm ts ⟨(printL nm ts).toArray⟩ hs hv hf h5 (by rw [toList_mk]; exact Exp.refl _)
  unfold readT
  rw [e]
  simp only [h]
  rfl
theorem readT_good {s : ByteArray} {nm : List UInt8} {ts : List Ti} (h : readT s = .good nm ts) : checkR nm ts = (0, 0) := by
  unfold readT at h
  cases hp : parseT s with
  | bad e a => rw [hp] at h; cases h
  | good nm' ts' =>
    rw [hp] at h
    simp only at h
    split at h
    · next hz => cases h; exact checkR_zero hz
    · cases h
theorem readT_bad {s : ByteArray} {e a : Int} (h : readT s = .bad e a) : e ≠ 0 := by
  unfold readT at h
  cases hp : parseT s with
  | bad e' a' =>
    rw [hp] at h
    cases h
    have := parseT_bad hp; omega
  | good nm' ts' =>
    rw [hp] at h
    simp only at h
    split at h
    · cases h
    · next hz => cases h; exact hz
theorem printP_any (nm : ByteArray) (A : Option Addr) (n c : Nat) (ts : List Ti) (w : World) (hck : checkR nm.toList ts = (0, 0)) (h : Tis w A n ts) (hc : n ≤ c) (htab : Lib.TabIs Tryd.prog w "internal/strconv.uint64pow10" .u64 Lib.pow10Tab) :
    Calls Tryd.prog 10 #[polV nm A n c] w fun e w' => e = .returned (.tuple #[.string ⟨(printL nm.toList ts).toArray⟩, .int .i64 0]) ∧ Below w.heap.size w w' := by
  have hn : nm.size ≤ maxLen := by
    have hv := (check_fine hck).1
    unfold validB at hv
    simp only [Bool.and_eq_true, decide_eq_true_eq] at hv
    rw [← len_toList]; unfold maxLen; omega
  have X := print_any nm A n c ts w hn h hc htab
  rw [hck, show printT nm.toList ts = printL nm.toList ts from by unfold printT; rw [hck, if_pos rfl]] at X
  exact X
theorem readP_any (nm : ByteArray) (ts : List Ti) (w : World) (hck : checkR nm.toList ts = (0, 0)) (hm : ∃ m : Int, w.cell? ⟨0, 0, none⟩ = some (.int .i64 m)) :
    Calls Tryd.prog 11 #[.string ⟨(printL nm.toList ts).toArray⟩] w fun e w' => (∃ A c, e = .returned (.tuple #[polV nm A ts.length c, .int .i64 0, .int .i64 0]) ∧ Tis w' A ts.length ts ∧ ts.length ≤ c) ∧ Below w.heap.size w w' := by
  obtain ⟨hv, h1, h5, hf, _⟩ := check_fine hck
  have X := read_any ⟨(printL nm.toList ts).toArray⟩ w (by rw [← len_toList, toList_mk]; have := print_len hv hf h5; unfold maxLen; omega) hm
  rw [readT_print hck] at X
  refine X.mono fun e w' ⟨⟨A, c, he, ho, hok, _, _⟩, hb⟩ => ⟨⟨A, c, ?_, ?_, ?_⟩, hb⟩
  · rw [he, mk_toList]
  · obtain ⟨A', c', e, hh⟩ := own_tis ho rfl hok (by unfold maxLen; omega); cases e; exact hh
  · obtain ⟨_, _, e, h, _⟩ := own_slice ho; cases e; exact h
theorem readL_any (nm : List UInt8) (ts : List Ti) (w : World) (hck : checkR (⟨nm.toArray⟩ : ByteArray).toList ts = (0, 0)) (hm : ∃ m : Int, w.cell? ⟨0, 0, none⟩ = some (.int .i64 m)) :
    Calls Tryd.prog 11 #[.string ⟨(printL nm ts).toArray⟩] w fun e w' => (∃ A c, e = .returned (.tuple #[polV ⟨nm.toArray⟩ A ts.length c, .int .i64 0, .int .i64 0]) ∧ Tis w' A ts.length ts ∧ ts.length ≤ c) ∧ Below w.heap.size w w' := by
  have h := readP_any ⟨nm.toArray⟩ ts w hck hm
  rw [toList_mk] at h
  exact h
set_option maxRecDepth 100000 in
set_option maxHeartbeats 2000000 in
theorem refSame_any (x : ByteArray) (A B : Option Addr) (n m c d : Nat) (a : List Ti) (w : World) (hA : Tis w A n a) (hB : Tis w B m a) : Calls Tryd.prog 12 #[polV x A n c, polV x B m d] w fun e w' => e = .returned (.bool true) ∧ Below w.heap.size w w' := by
  obtain rfl : n = m := hA.len.symm.trans hB.len
  have hn := hA.n_le
  unfold maxLen at hn
  have HL := Lib.hid hA.len
  have hb : Below w.heap.size w ((w.alloc (.cells #[.string x, .slice A n c] 24)).alloc (.cells #[.string x, .slice B n d] 24)) := ((Below.refl _ _).alloc (Nat.le_refl _) _).alloc (by simp) _
  have bp := (Bx.new w 24 #[.string x, .slice A n c]).alloc (.cells #[.string x, .slice B n d] 24)
  have bq := Bx.new (w.alloc (.cells #[.string x, .slice A n c] 24)) 24 #[.string x, .slice B n d]
  rw [World.size_alloc] at bq
  go_enter Tryd.func12, Tryd.ntmps12
  go_wp2
  generalize (w.alloc (.cells #[.string x, .slice A n c] 24)).alloc (.cells #[.string x, .slice B n d] 24) = w1 at *
  go_loopw [5] (fun i wr => ∃ j : Nat, j ≤ n ∧ i = .int .i64 j ∧ Below w1.heap.size w1 wr) (fun i _ => n - (intOf i).toNat)
  case atStart => exact ⟨0, Nat.zero_le _, rfl, Below.refl _ _⟩
  case round =>
    obtain ⟨j, hj, rfl, hbel⟩ := hrel
    have p1 := (bp.below hbel).at_ 1 rfl
    have q1 := (bq.below hbel).at_ 1 rfl
    have hbw := hb.trans (hbel.mono hb.size)
    by_cases hlt : j < n
    · have K : j < a.length := by rw [HL.out]; exact hlt
      obtain ⟨g1, o1, rfl, _, X⟩ := (hA.below hbw).get K
      obtain ⟨r0, r1, r2, r3⟩ := X
      obtain ⟨g2, o2, rfl, _, Y⟩ := (hB.below hbw).get K
      obtain ⟨s0, s1, s2, s3⟩ := Y
      generalize a[j]'K = t at *
      have g0 : (0 : Int) ≤ (j : Int) := by omega
      have g1 : (j : Int) < (n : Int) := by omega
      clear bp bq
      go_wp2
      go_quiet (fail)
      go_wp2
      go_roundw
      case rel => exact ⟨j + 1, by omega, by go_num, below_drewN hbel _⟩
      case measure => simp [intOf]; omega
    · have hd : decide ((j : Int) < (n : Int)) = false := decide_eq_false (by omega)
      go_wp2
      go_ret
      exact ⟨rfl, hbw⟩
end Go.Proofs.YtnnamhomapagiaaDoor
