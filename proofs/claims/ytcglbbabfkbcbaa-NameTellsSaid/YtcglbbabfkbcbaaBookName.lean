/-
  sedimentbook's names, and lists of texts that are marked with them.
-/
import Derived.Test.YtcglbbabfkbcbaaBook
import Derived.Test.YtcglbbabfkbcbaaRowsKP
import Derived.Deep.OwnShut
import Derived.Deep.QuietTactic
import Derived.IntWalk
import Derived.WalkSpells
import Derived.WalkLawsBesides
import Derived.Lib.Hide
import Derived.Outline
import Derived.Laws.IdiomStrings
namespace Go.Proofs.Ytcglbbabfkbcbaa
open Go.RowKit Go.Deep

def encTexts (z : ByteArray) : List Value := [.string z]
theorem encTexts_len (z : ByteArray) : (encTexts z).length = 1 := rfl
theorem flat_str (l : List ByteArray) : l.flatMap encTexts = l.map Value.string := by
  induction l with
  | nil => rfl
  | cons a r ih => rw [List.flatMap_cons, ih]; rfl
theorem encTexts_one (l : List ByteArray) : ∀ u ∈ l.flatMap encTexts, u.oneCell' = true := by
  intro u hu
  obtain ⟨r, _, hr⟩ := List.mem_flatMap.1 hu
  rw [List.mem_singleton.1 hr]; rfl
theorem info_Texts : (Try.prog.info? 9).map (fun i => (i.zero, i.size, i.bytes)) = some (some (.string ByteArray.empty), 1, 16) := by kernel_rfl
def mkTexts (i k : Nat) : ByteArray := ⟨#[109, UInt8.ofNat (65 + i % 26), UInt8.ofNat (65 + i / 26 % 26), UInt8.ofNat (48 + k % 10), UInt8.ofNat (48 + k / 10 % 10), UInt8.ofNat (48 + k / 100 % 10)]⟩
theorem mkTexts_size (i k : Nat) : (mkTexts i k).size = 6 := rfl
theorem u8_in {z : Int} (h : 0 ≤ z ∧ z ≤ 255) : IntKind.u8.wrap z = z := by
  have : z % 256 = z := by omega
  simp [IntKind.wrap, IntKind.bits, IntKind.signed, this]
theorem byte_of {u : Nat} (h : u ≤ 255) : ((UInt8.ofNat u).toNat : Int) = u := by
  rw [UInt8.toNat_ofNat']; omega
set_option maxRecDepth 100000 in
set_option maxHeartbeats 1000000 in
theorem bookName_any (i k : Nat) (w : World) (hi : i ≤ 250) (hk : k ≤ 200000) :
    Calls Try.prog 92 #[.int .i64 i, .int .i64 k] w fun e w' => e = .returned (.string (mkTexts i k)) ∧ Below w.heap.size w w' := by
  have h1 : IntKind.u8.wrap (65 + (i : Int) % 26) = 65 + (i : Int) % 26 := u8_in (by omega)
  have h2 : IntKind.u8.wrap (65 + (i : Int) / 26 % 26) = 65 + (i : Int) / 26 % 26 := u8_in (by omega)
  have h3 : IntKind.u8.wrap (48 + (k : Int) % 10) = 48 + (k : Int) % 10 := u8_in (by omega)
  have h4 : IntKind.u8.wrap (48 + (k : Int) / 10 % 10) = 48 + (k : Int) / 10 % 10 := u8_in (by omega)
  have h5 : IntKind.u8.wrap (48 + (k : Int) / 100 % 10) = 48 + (k : Int) / 100 % 10 := u8_in (by omega)
  obtain ⟨c1, e1⟩ : ∃ c, c = UInt8.ofNat (65 + i % 26) := ⟨_, rfl⟩
  obtain ⟨c2, e2⟩ : ∃ c, c = UInt8.ofNat (65 + i / 26 % 26) := ⟨_, rfl⟩
  obtain ⟨c3, e3⟩ : ∃ c, c = UInt8.ofNat (48 + k % 10) := ⟨_, rfl⟩
  obtain ⟨c4, e4⟩ : ∃ c, c = UInt8.ofNat (48 + k / 10 % 10) := ⟨_, rfl⟩
  obtain ⟨c5, e5⟩ : ∃ c, c = UInt8.ofNat (48 + k / 100 % 10) := ⟨_, rfl⟩
  have HM := Lib.hid (show mkTexts i k = ⟨#[109, c1, c2, c3, c4, c5]⟩ from by rw [mkTexts, e1, e2, e3, e4, e5])
  have v1 : (c1.toNat : Int) = 65 + (i : Int) % 26 := by rw [e1, byte_of (by omega)]; omega
  have v2 : (c2.toNat : Int) = 65 + (i : Int) / 26 % 26 := by rw [e2, byte_of (by omega)]; omega
  have v3 : (c3.toNat : Int) = 48 + (k : Int) % 10 := by rw [e3, byte_of (by omega)]; omega
  have v4 : (c4.toNat : Int) = 48 + (k : Int) / 10 % 10 := by rw [e4, byte_of (by omega)]; omega
  have v5 : (c5.toNat : Int) = 48 + (k : Int) / 100 % 10 := by rw [e5, byte_of (by omega)]; omega
  have hba := (Below.refl w.heap.size w).alloc (Nat.le_refl _) (.cells #[.int .u8 109, .int .u8 (65 + (i : Int) % 26), .int .u8 (65 + (i : Int) / 26 % 26), .int .u8 (48 + (k : Int) % 10), .int .u8 (48 + (k : Int) / 10 % 10), .int .u8 (48 + (k : Int) / 100 % 10)] 5)
  have kc : (convert 127 9 (.slice (some ⟨w.heap.size, 0, none⟩) 6 6)).run Try.prog (w.alloc (.cells #[.int .u8 109, .int .u8 (65 + (i : Int) % 26), .int .u8 (65 + (i : Int) / 26 % 26), .int .u8 (48 + (k : Int) % 10), .int .u8 (48 + (k : Int) / 10 % 10), .int .u8 (48 + (k : Int) / 100 % 10)] 5)) = .ok (.string ⟨#[109, c1, c2, c3, c4, c5]⟩) (w.alloc (.cells #[.int .u8 109, .int .u8 (65 + (i : Int) % 26), .int .u8 (65 + (i : Int) / 26 % 26), .int .u8 (48 + (k : Int) % 10), .int .u8 (48 + (k : Int) / 10 % 10), .int .u8 (48 + (k : Int) / 100 % 10)] 5)) :=
    run_convert_bytes_back (P := Try.prog) _ 127 9 5 ⟨w.heap.size, 0, none⟩ 6 [109, c1, c2, c3, c4, c5] Try.underlying127 Try.underlying5 Try.underlying9 (fun j hj => by
      have ha : (⟨w.heap.size, 0, none⟩ : Addr).add j = ⟨w.heap.size, j, none⟩ := by
        unfold Addr.add
        split
        · next e => subst e; rfl
        · simp
      rw [ha, cell_of_row _ w.heap.size j _ _ _ (heap_alloc_new w _)]
      have hj6 : j < 6 := hj
      have : j = 0 ∨ j = 1 ∨ j = 2 ∨ j = 3 ∨ j = 4 ∨ j = 5 := by omega
      rcases this with rfl | rfl | rfl | rfl | rfl | rfl
      · rfl
      · show some (Value.int .u8 _) = some (Value.int .u8 (c1.toNat : Int)); rw [v1]
      · show some (Value.int .u8 _) = some (Value.int .u8 (c2.toNat : Int)); rw [v2]
      · show some (Value.int .u8 _) = some (Value.int .u8 (c3.toNat : Int)); rw [v3]
      · show some (Value.int .u8 _) = some (Value.int .u8 (c4.toNat : Int)); rw [v4]
      · show some (Value.int .u8 _) = some (Value.int .u8 (c5.toNat : Int)); rw [v5])
  rw [HM.out]
  clear HM e1 e2 e3 e4 e5 v1 v2 v3 v4 v5
  go_enter Try.func92, Try.ntmps92
  go_wp2_with fail
  go_ret
  exact ⟨rfl, hba⟩
set_option maxRecDepth 100000 in
set_option maxHeartbeats 2000000 in
theorem markTexts_any (i f n : Nat) (w : World) (hi : i ≤ 250) (hn : f + n ≤ 200000) :
    Calls Try.prog 72 #[.int .i64 i, .int .i64 f, .int .i64 n] w fun e w' => ∃ v, e = .returned v ∧ w'.ownsRow w.heap.size 9 1 v n ((marks mkTexts i f n).flatMap encTexts) ∧ Below w.heap.size w w' := by
  obtain ⟨i0, hi0, hz0, hz1, hz2⟩ := info_parts info_Texts
  have HI := Lib.hid hi0
  have HI0 := Lib.hid hz0
  have HI1 := Lib.hid hz1
  have HI2 := Lib.hid hz2
  clear hi0 hz0 hz1 hz2
  go_enter Try.func72, Try.ntmps72
  go_wp2_with fail
  go_loopw [7, 8] (fun v q wr => ∃ j : Nat, j ≤ n ∧ q = .int .i64 ((f : Int) + (j : Int)) ∧ wr.ownsRow w.heap.size 9 1 v j ((marks mkTexts i f j).flatMap encTexts) ∧ Below w.heap.size w wr) (fun _ q _ => f + n - (intOf q).toNat)
  case atStart => exact ⟨0, Nat.zero_le _, by simp, World.ownsRow_nil _ _ _ _, Below.refl _ _⟩
  case round =>
    obtain ⟨j, hj, rfl, hrw, hbr⟩ := hrel
    have g0 : (0 : Int) ≤ (f : Int) + (j : Int) := by omega
    by_cases hlt : j < n
    · have g1 : decide ((f : Int) + (j : Int) < (f : Int) + (n : Int)) = true := decide_eq_true (by omega)
      have HNM := Lib.hid (bookName_any i (f + j) wr hi (by omega))
      rw [show ((f + j : Nat) : Int) = (f : Int) + (j : Int) from by omega] at HNM
      have HRW := Lib.hid hrw
      have hsz := hbr.size
      clear hrw
      go_wp2_with (first
        | (at_builtin; refine wpList_append_sl _ rfl _ _ 22 rfl w.heap.size 9 i0 _ 1 16 Try.underlying22 HI.out HI0.out HI1.out HI2.out rfl (by decide) u7 j _ rfl HR4.out (some ⟨w3.heap.size, 0, none⟩) 1 1 [.string (mkTexts i (f + j))] rfl rfl HS4.out HON.out ?c4 ?c5 ?c6 ?_; (unfold maxLen; omega); (omega); (simp; omega); intro v' w4 hown4 hg4 _)
        | (go_at_call 92; refine HNM.out.mono ?_; rintro e w3 ⟨rfl, hb3⟩
           have hsz3 := hb3.size
           have hba := hb3.alloc hsz3 (.cells #[.string (mkTexts i (f + j))] 9)
           have HR4 := Lib.hid (bk_below HRW.out hba)
           have HS4 := Lib.hid (Sl.new w3 9 w3.heap.size [.string (mkTexts i (f + j))] #[.string (mkTexts i (f + j))] rfl rfl)
           have HON := Lib.hid (show ∀ u ∈ [Value.string (mkTexts i (f + j))], u.oneCell' = true from fun u hu => by rw [List.mem_singleton.1 hu]; rfl)
           have HBA := Lib.hid (hbr.trans (hba.mono hsz))))
      have hown : w4.ownsRow w.heap.size 9 1 v' (j + 1) ((marks mkTexts i f (j + 1)).flatMap encTexts) := by
        rw [marks_succ, List.flatMap_append]; exact hown4
      have hb4 := HBA.out.grown hg4 (by simp; omega) (fun q hq => (HR4.out.lt q hq).1)
      go_roundw
      case rel => exact ⟨j + 1, by omega, by simp; omega, hown, hb4⟩
      case measure => simp [intOf]; omega
    · have g1 : decide ((f : Int) + (j : Int) < (f : Int) + (n : Int)) = false := decide_eq_false (by omega)
      have hjn : j = n := by omega
      subst hjn
      go_wp2_with fail
      go_ret
      exact ⟨_, rfl, hrw, hbr⟩
end Go.Proofs.Ytcglbbabfkbcbaa
