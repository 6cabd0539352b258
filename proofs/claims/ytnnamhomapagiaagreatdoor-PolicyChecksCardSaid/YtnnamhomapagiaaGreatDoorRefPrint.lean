/-
  sedimentref1.Digits, sedimentref6.Print, sedimentref6.Same.
-/
import Derived.Test.YtnnamhomapagiaaGreatDoorPolSaid
import Derived.Test.YtnnamhomapagiaaGreatDoorPolSame
import Derived.Deep.DeepCutAuto
import Derived.Deep.RegionHeld3
import Derived.Laws.IdiomStrings
namespace Go.Proofs.YtnnamhomapagiaaGreatDoor
open Go.ChangeShapes Go.WideShapes Go.ChangeAt Go.RowKit Go.Deep

theorem dg_big {u : Nat} (h : ¬ u / 10 = 0) : Lib.decDigits u = Lib.decDigits (u / 10) ++ [UInt8.ofNat (48 + u % 10)] := by rw [Lib.decDigits, dif_neg (by omega)]
theorem dg_small {u : Nat} (h : u / 10 = 0) : Lib.decDigits u = [UInt8.ofNat (48 + u % 10)] := by rw [Lib.decDigits, dif_pos (by omega), Nat.mod_eq_of_lt (by omega)]
theorem dig_byte (u : Nat) : ((UInt8.ofNat (48 + u % 10)).toNat : Int) = 48 + (u : Int) % 10 := by
  rw [UInt8.toNat_ofNat']
  omega
set_option maxRecDepth 100000 in
set_option maxHeartbeats 2000000 in
theorem refDigits_any (v : Int) (w : World) (h0 : 0 ≤ v) (h1 : v ≤ 1000000) :
    Calls Tryz.prog 27 #[.int .i64 v] w fun e w' => e = .returned (.string ⟨(Lib.itoa v).toArray⟩) ∧ Below w.heap.size w w' := by
  have HI := Lib.hid (show Lib.itoa v = Lib.decDigits v.toNat from by unfold Lib.itoa; rw [if_neg (by omega)])
  obtain ⟨n, rfl⟩ : ∃ n : Nat, v = n := ⟨v.toNat, by omega⟩
  have hn : n ≤ 1000000 := by omega
  have g0 : decide ((n : Int) < 0) = false := decide_eq_false (by omega)
  clear h0 h1
  go_enter Tryz.func27, Tryz.ntmps27
  go_wp2_with fail
  go_loopw [0, 3, 5] (fun v s _ wr => ∃ (u : Nat) (acc : List UInt8), u + acc.length ≤ n ∧ v = .int .i64 u ∧ s = .string ⟨acc.toArray⟩ ∧ Hid (Lib.decDigits n = Lib.decDigits u ++ acc) ∧ Below w.heap.size w wr) (fun v _ _ _ => (intOf v).toNat)
  case atStart => exact ⟨n, [], by simp, rfl, rfl, Lib.hid (by simp), Below.refl _ _⟩
  case round =>
    obtain ⟨u, acc, hu, rfl, rfl, HD, hbr⟩ := hrel
    have q0 : decide ((u : Int) % 10 < 0) = false := decide_eq_false (by omega)
    have hba := (Below.refl wr.heap.size wr).alloc (Nat.le_refl _) (.cells #[.int .u8 (48 + (u : Int) % 10)] 5)
    obtain ⟨c, hc⟩ : ∃ c, c = UInt8.ofNat (48 + u % 10) := ⟨_, rfl⟩
    have hcv : (c.toNat : Int) = 48 + (u : Int) % 10 := by rw [hc]; exact dig_byte u
    have kc : (convert 57 9 (.slice (some ⟨wr.heap.size, 0, none⟩) 1 1)).run Tryz.prog (wr.alloc (.cells #[.int .u8 (48 + (u : Int) % 10)] 5)) = .ok (.string ⟨#[c]⟩) (wr.alloc (.cells #[.int .u8 (48 + (u : Int) % 10)] 5)) := run_convert_bytes_back (P := Tryz.prog) (wr.alloc (.cells #[.int .u8 (48 + (u : Int) % 10)] 5)) 57 9 5 ⟨wr.heap.size, 0, none⟩ 1 [c] Tryz.underlying57 Tryz.underlying5 Tryz.underlying9 (fun j hj => by
      have : j = 0 := by simpa using hj
      subst this
      have h := cell_of_row (wr.alloc (.cells #[.int .u8 (48 + (u : Int) % 10)] 5)) wr.heap.size 0 #[.int .u8 (48 + (u : Int) % 10)] 5 (0, 0) (heap_alloc_new wr _)
      show World.cell? _ ⟨wr.heap.size, 0, none⟩ = _
      rw [h]
      simp only [List.getElem_cons_zero]
      rw [hcv]; rfl)
    have hw : IntKind.u8.wrap (48 + (u : Int) % 10) = 48 + (u : Int) % 10 := by
      have : (48 + (u : Int) % 10) % 256 = 48 + (u : Int) % 10 := by omega
      simp [IntKind.wrap, IntKind.bits, IntKind.signed, this]
    have HJ := Lib.hid (show (⟨#[c]⟩ : ByteArray) ++ ⟨acc.toArray⟩ = ⟨(c :: acc).toArray⟩ from by apply ByteArray.ext; simp)
    have HD2 := Lib.hid (show if u / 10 = 0 then Lib.decDigits u = [c] else Lib.decDigits u = Lib.decDigits (u / 10) ++ [c] from by
      rw [hc]; split
      · next h => exact dg_small h
      · next h => exact dg_big h)
    clear hc hcv
    by_cases hz : u / 10 = 0
    · have q1 : ((u : Int) / 10 == 0) = true := beq_iff_eq.2 (by omega)
      have HE := Lib.hid (show Lib.decDigits n = c :: acc from by have h := HD2.out; rw [if_pos hz] at h; rw [HD.out, h]; rfl)
      clear HD HD2
      go_wp2_with fail
      go_ret
      exact ⟨by rw [HI.out, Int.toNat_natCast, HE.out]; rfl, hbr.trans (hba.mono hbr.size)⟩
    · have q1 : ((u : Int) / 10 == 0) = false := beq_eq_false_iff_ne.2 (by omega)
      have HE := Lib.hid (show Lib.decDigits n = Lib.decDigits (u / 10) ++ (c :: acc) from by have h := HD2.out; rw [if_neg hz] at h; rw [HD.out, h, List.append_assoc]; rfl)
      clear HD HD2
      go_wp2_with fail
      go_roundw
      case rel => exact ⟨u / 10, c :: acc, by simp; omega, by go_num, by rw [HJ.out], HE, hbr.trans (hba.mono hbr.size)⟩
      case measure => simp [intOf]; omega
end Go.Proofs.YtnnamhomapagiaaGreatDoor
