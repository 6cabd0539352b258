/-
  The first call of the statements of chapter 8: it answers true.
-/
import Derived.Test.YtnnamhomapagiaaGreatDoorPolRead
import Derived.Test.YtnnamhomapagiaaGreatDoorPolSame
namespace Go.Proofs.YtnnamhomapagiaaGreatDoor
open Go.ChangeShapes Go.WideShapes Go.ChangeAt Go.RowKit Go.Deep

def webTs : List Ti := [⟨⟨#[114, 97, 119]⟩, 1, 100, 2⟩, ⟨⟨#[116, 101, 110, 115]⟩, 10, 1000, 1⟩]
def webNm : List UInt8 := [119, 101, 98]
def webB : ByteArray := ⟨([112, 111, 108, 105, 99, 121, 32, 119, 101, 98, 10, 116, 105, 101, 114, 32, 114, 97, 119, 32, 101, 118, 101, 114, 121, 32, 49, 32, 107, 101, 101, 112, 32, 49, 48, 48, 32, 115, 104, 97, 114, 100].append [115, 32, 50, 10, 116, 105, 101, 114, 32, 116, 101, 110, 115, 32, 101, 118, 101, 114, 121, 32, 49, 48, 32, 107, 101, 101, 112, 32, 49, 48, 48, 48, 32, 115, 104, 97, 114, 100, 115, 32, 49, 10]).toArray⟩
theorem web_check : checkR webNm webTs = (0, 0) := by decide +kernel
theorem dec_big {u : Nat} (h : ¬ u < 10) : Lib.decDigits u = Lib.decDigits (u / 10) ++ [UInt8.ofNat (48 + u % 10)] := by rw [Lib.decDigits, dif_neg h]
theorem web_print : printL webNm webTs = webB.toList := by
  have d1 : Lib.itoa 1 = [49] := by rw [itoa_pos (by decide)]; exact Lib.decDigits_one (by decide)
  have d2 : Lib.itoa 2 = [50] := by rw [itoa_pos (by decide)]; exact Lib.decDigits_one (by decide)
  have d10 : Lib.itoa 10 = [49, 48] := by rw [itoa_pos (by decide)]; exact Lib.decDigits_two (by decide) (by decide)
  have d100 : Lib.itoa 100 = [49, 48, 48] := by
    rw [itoa_pos (by decide)]
    show Lib.decDigits 100 = _
    rw [dec_big (by decide), Lib.decDigits_two (by decide) (by decide)]; rfl
  have d1000 : Lib.itoa 1000 = [49, 48, 48, 48] := by
    rw [itoa_pos (by decide)]
    show Lib.decDigits 1000 = _
    rw [dec_big (by decide), dec_big (by decide), Lib.decDigits_two (by decide) (by decide)]; rfl
  unfold printL webTs tierP
  simp only [List.flatMap_cons, List.flatMap_nil, d1, d2, d10, d100, d1000, ByteArray.toList_eq]
  rfl
theorem web_ts_fine : ∀ t ∈ webTs, t.Fine := (check_fine web_check).2.2.2.1
theorem web_read : readT webB = .good webNm webTs := by
  have h := parse_back webNm webTs webB (by decide) (by decide +kernel) web_ts_fine (by decide) (web_print ▸ Exp.refl _)
  unfold readT
  rw [h]
  simp only [web_check]
  rfl
def abB : ByteArray := ⟨#[112, 111, 108, 105, 99, 121, 32, 97, 32, 98]⟩
theorem ab_parse : parseT abB = .bad 22 1 := by
  rw [parseT_is]
  have e : abB.toList = [112, 111, 108, 105, 99, 121, 32, 97, 32, 98] := by rw [ByteArray.toList_eq]; rfl
  rw [e, if_neg (by decide), if_neg (by decide)]
  rfl
set_option maxRecDepth 100000 in
set_option maxHeartbeats 4000000 in
theorem alive_any (w : World) (hm : ∃ m : Int, w.cell? ⟨0, 0, none⟩ = some (.int .i64 m)) (htab : Lib.TabIs Tryz.prog w "internal/strconv.uint64pow10" .u64 Lib.pow10Tab) :
    Calls Tryz.prog 5 #[] w fun e w' => e = .returned (.bool true) ∧ Below w.heap.size w w' := by
  have hlt0 : 0 < w.heap.size := by obtain ⟨m, h⟩ := hm; have := block_lt_of_cell h; simpa using this
  have HR := Lib.hid (read_any webB w (by decide) hm)
  rw [web_read] at HR
  unfold ParseSays at HR
  simp only [show webTs.length = 2 from rfl] at HR
  have HM := Lib.hid (fun W (hW : Below w.heap.size w W) => hm.imp fun m h => (hW.cell (p := ⟨0, 0, none⟩) hlt0).trans h)
  have HTAB := Lib.hid (Lib.tabBelow_of_tabIs htab)
  have HA := Lib.hid (fun W hW => parse_any abB W (by decide) (HM.out W hW))
  rw [ab_parse] at HA
  unfold ParseSays at HA
  have HP := Lib.hid (show (⟨(printT (⟨webNm.toArray⟩ : ByteArray).toList webTs).toArray⟩ : ByteArray) = webB from by
    rw [toList_mk]; unfold printT; rw [web_check, if_pos rfl, web_print, ByteArray.toList_eq])
  have HCK := Lib.hid (show checkR (⟨webNm.toArray⟩ : ByteArray).toList webTs = (0, 0) from by rw [toList_mk]; exact web_check)
  go_enter Tryz.func5, Tryz.ntmps5
  go_upto_region 4 with (first
    | (go_at_call 17; refine HR.out.mono ?_; rintro e w1 ⟨⟨A, c, rfl, hown, hok, _, _⟩, hb1⟩
       have hba := (Below.refl w1.heap.size w1).alloc (Nat.le_refl _) (.cells #[.string ⟨webNm.toArray⟩, .slice A 2 c] 24)
       have bp := Bx.new w1 24 #[.string ⟨webNm.toArray⟩, .slice A 2 c]
       have hbw := hb1.trans (hba.mono hb1.size)
       have HTI := Lib.hid (show Tis w1 A 2 webTs from by obtain ⟨A', c', e, hh⟩ := own_tis hown rfl hok (by decide); cases e; exact hh)
       have hac : 2 ≤ c := by obtain ⟨_, _, e, h, _⟩ := own_slice hown; cases e; exact h
       have r0 := bp.at_ 0 rfl
       have r1 := bp.at_ 1 rfl)
    | (go_at_call 9; refine (print_any ⟨webNm.toArray⟩ A 2 c webTs _ (by decide) (HTI.out.below hba) hac (HTAB.out _ hbw)).mono ?_; rw [HP.out, HCK.out]; rintro e w2 ⟨rfl, hb2⟩
       have hb12 := hbw.trans (hb2.mono hbw.size))
    | (go_at_call 18; refine (HA.out _ hb12).mono ?_; rintro e w3 ⟨rfl, hb3⟩))
  have hb3a := hb3.trans ((Below.refl _ _).alloc (Nat.le_refl _) (.cells #[.string ByteArray.empty, .slice none 0 0] 24) |>.mono hb3.size)
  have hfin := hb12.trans (hb3a.mono hb12.size)
  have bq := (bp.below hb2).below hb3a
  have T2 := ((HTI.out.below hba).below hb2).below hb3a
  have r0 := bq.at_ 0 rfl
  have r1 := bq.at_ 1 rfl
  obtain ⟨b, off, rfl, _, X⟩ := T2.get (j := 1) (by decide)
  have x1 := X.c1
  have hx : (webTs[1]'(by decide)).ev = 10 := rfl
  rw [hx] at x1
  rw [Nat.one_mul] at x1
  have hw : (webNm == ([119, 101, 98] : List UInt8)) = true := by decide
  have g1 : (1 : Int) < 2 := by decide
  generalize w3.alloc (.cells #[.string ByteArray.empty, .slice none 0 0] 24) = W at *
  clear bp bq T2 X hx hown HTI HR HA HP HCK HM hba hb1 hb2 hb3 hb3a hbw hb12
  unfold webB
  go_wp2_with fail
  go_ret
  exact ⟨rfl, hfin⟩
end Go.Proofs.YtnnamhomapagiaaGreatDoor
