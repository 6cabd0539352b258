/-
  sedimentbook's Apart where Tiers hold lists. (gen_apart.py prints this.)
-/
import Derived.Test.YtnnamhomapagiaaGreatDoorBookNil
import Derived.Test.YtnnamhomapagiaaGreatDoorBookTiers
import Derived.Test.YtnnamhomapagiaaGreatDoorBookTiersG
import Derived.Deep.DeepCutAuto
namespace Go.Proofs.YtnnamhomapagiaaGreatDoor
open Go.RowKit Go.Deep

set_option maxRecDepth 100000 in
set_option maxHeartbeats 4000000 in
theorem apartTiers_any (g B : Nat) (fs : Array Value) (lsTiers : List (List Ti)) (w : World) (hB : Bx w g 37 fs) (hTiers : BkTiers w B fs lsTiers) (hnTiers : lsTiers.length ≤ 250) (hfTiers : ∀ l ∈ lsTiers, l.length ≤ 50000) (hBw : B ≤ w.heap.size) (hz : ∀ i, i < 16 → i ≠ 8 → i ≠ 9 → fs[i]? = some (.slice none 0 0)) :
    Calls Tryz.prog 16 #[.pointer (some ⟨g, 0, none⟩)] w fun e w' => e = .returned (.bool true) ∧ Below B w w' := by
  have HETexts := Lib.hid (hz 0 (by decide) (by decide) (by decide))
  have HEInts := Lib.hid (hz 2 (by decide) (by decide) (by decide))
  have HERecords := Lib.hid (hz 4 (by decide) (by decide) (by decide))
  have HESamples := Lib.hid (hz 6 (by decide) (by decide) (by decide))
  have HEErrnos := Lib.hid (hz 10 (by decide) (by decide) (by decide))
  have HEWords := Lib.hid (hz 12 (by decide) (by decide) (by decide))
  have HESteps := Lib.hid (hz 14 (by decide) (by decide) (by decide))
  clear hz
  have HHTiers := Lib.hid hTiers
  obtain ⟨vTiers, vsTiers, vWTiers, wsTiers, hxTiers, _, rTiers, _, _, kTiers, _⟩ := hTiers.ex
  obtain ⟨ATiers, cTiers, rfl, _⟩ := bk_sl rTiers
  have HFTiers := Lib.hid hfTiers
  have HNNTiers := Lib.hid (show lsTiers.length ≤ 250 ∧ (marksAll mkTiers 0 lsTiers).length = lsTiers.length from ⟨hnTiers, marksAll_len _ _ _⟩)
  obtain ⟨nTiers, hqTiers⟩ : ∃ n, n = lsTiers.length := ⟨_, rfl⟩
  rw [← hqTiers] at hxTiers rTiers hnTiers
  have HNTiers := Lib.hid hnTiers
  have HETiers := Lib.hid hxTiers
  have HRTiers := Lib.hid rTiers
  have HKTiers := Lib.hid kTiers
  have HSTTiers := Lib.hid (fun W (h : Below w.heap.size w W) => (stillTiers_any g B fs lsTiers W (hB.below h) (HHTiers.out.below h) (HNNTiers.out.1)).mono (fun e w' ⟨a, q, b⟩ => (⟨a, b ▸ below_drewN h q⟩ : e = Ending.returned (.bool true) ∧ Below w.heap.size w w')))
  have HMITiers := Lib.hid (fun (i : Nat) l (h : (marksAll mkTiers 0 lsTiers)[i]? = some l) => (marksAll_is mkTiers h).1)
  have HMFTiers := Lib.hid (marksAll_few mkTiers hfTiers)
  clear hfTiers hnTiers hxTiers rTiers kTiers hTiers hqTiers
  have HSTTexts := Lib.hid (fun W (h : Below w.heap.size w W) => (stillNilTexts_any g fs W (hB.below h) HETexts.out).mono (fun e w' ⟨a, q, b⟩ => (⟨a, b ▸ below_drewN h q⟩ : e = Ending.returned (.bool true) ∧ Below w.heap.size w w')))
  have HPTTexts := Lib.hid (fun W (h : Bx W g 37 fs) => putNilTexts_any g fs W h HETexts.out)
  have HGRTexts := Lib.hid (fun W (h : Bx W g 37 fs) => growNilTexts_any g fs W h HETexts.out)
  have HSTInts := Lib.hid (fun W (h : Below w.heap.size w W) => (stillNilInts_any g fs W (hB.below h) HEInts.out).mono (fun e w' ⟨a, q, b⟩ => (⟨a, b ▸ below_drewN h q⟩ : e = Ending.returned (.bool true) ∧ Below w.heap.size w w')))
  have HPTInts := Lib.hid (fun W (h : Bx W g 37 fs) => putNilInts_any g fs W h HEInts.out)
  have HGRInts := Lib.hid (fun W (h : Bx W g 37 fs) => growNilInts_any g fs W h HEInts.out)
  have HSTRecords := Lib.hid (fun W (h : Below w.heap.size w W) => (stillNilRecords_any g fs W (hB.below h) HERecords.out).mono (fun e w' ⟨a, q, b⟩ => (⟨a, b ▸ below_drewN h q⟩ : e = Ending.returned (.bool true) ∧ Below w.heap.size w w')))
  have HPTRecords := Lib.hid (fun W (h : Bx W g 37 fs) => putNilRecords_any g fs W h HERecords.out)
  have HGRRecords := Lib.hid (fun W (h : Bx W g 37 fs) => growNilRecords_any g fs W h HERecords.out)
  have HSTSamples := Lib.hid (fun W (h : Below w.heap.size w W) => (stillNilSamples_any g fs W (hB.below h) HESamples.out).mono (fun e w' ⟨a, q, b⟩ => (⟨a, b ▸ below_drewN h q⟩ : e = Ending.returned (.bool true) ∧ Below w.heap.size w w')))
  have HPTSamples := Lib.hid (fun W (h : Bx W g 37 fs) => putNilSamples_any g fs W h HESamples.out)
  have HGRSamples := Lib.hid (fun W (h : Bx W g 37 fs) => growNilSamples_any g fs W h HESamples.out)
  have HSTErrnos := Lib.hid (fun W (h : Below w.heap.size w W) => (stillNilErrnos_any g fs W (hB.below h) HEErrnos.out).mono (fun e w' ⟨a, q, b⟩ => (⟨a, b ▸ below_drewN h q⟩ : e = Ending.returned (.bool true) ∧ Below w.heap.size w w')))
  have HPTErrnos := Lib.hid (fun W (h : Bx W g 37 fs) => putNilErrnos_any g fs W h HEErrnos.out)
  have HGRErrnos := Lib.hid (fun W (h : Bx W g 37 fs) => growNilErrnos_any g fs W h HEErrnos.out)
  have HSTWords := Lib.hid (fun W (h : Below w.heap.size w W) => (stillNilWords_any g fs W (hB.below h) HEWords.out).mono (fun e w' ⟨a, q, b⟩ => (⟨a, b ▸ below_drewN h q⟩ : e = Ending.returned (.bool true) ∧ Below w.heap.size w w')))
  have HPTWords := Lib.hid (fun W (h : Bx W g 37 fs) => putNilWords_any g fs W h HEWords.out)
  have HGRWords := Lib.hid (fun W (h : Bx W g 37 fs) => growNilWords_any g fs W h HEWords.out)
  have HSTSteps := Lib.hid (fun W (h : Below w.heap.size w W) => (stillNilSteps_any g fs W (hB.below h) HESteps.out).mono (fun e w' ⟨a, q, b⟩ => (⟨a, b ▸ below_drewN h q⟩ : e = Ending.returned (.bool true) ∧ Below w.heap.size w w')))
  have HPTSteps := Lib.hid (fun W (h : Bx W g 37 fs) => putNilSteps_any g fs W h HESteps.out)
  have HGRSteps := Lib.hid (fun W (h : Bx W g 37 fs) => growNilSteps_any g fs W h HESteps.out)
  have HBX := Lib.hid hB
  have HBW := Lib.hid hBw
  have hs0 := Below.refl w.heap.size w
  clear hB hBw
  go_enter Tryz.func16, Tryz.ntmps16
  go_upto_region 17 with (first
    | (go_at_call 32; refine (HSTTexts.out _ (by assumption)).mono ?_; rintro e sTexts ⟨rfl, hsTexts⟩)
    | (go_at_call 33; refine (HSTInts.out _ (by assumption)).mono ?_; rintro e sInts ⟨rfl, hsInts⟩)
    | (go_at_call 34; refine (HSTRecords.out _ (by assumption)).mono ?_; rintro e sRecords ⟨rfl, hsRecords⟩)
    | (go_at_call 35; refine (HSTSamples.out _ (by assumption)).mono ?_; rintro e sSamples ⟨rfl, hsSamples⟩)
    | (go_at_call 36; refine (HSTTiers.out _ (by assumption)).mono ?_; rintro e sTiers ⟨rfl, hsTiers⟩)
    | (go_at_call 37; refine (HSTErrnos.out _ (by assumption)).mono ?_; rintro e sErrnos ⟨rfl, hsErrnos⟩)
    | (go_at_call 38; refine (HSTWords.out _ (by assumption)).mono ?_; rintro e sWords ⟨rfl, hsWords⟩)
    | (go_at_call 39; refine (HSTSteps.out _ (by assumption)).mono ?_; rintro e sSteps ⟨rfl, hsSteps⟩))
  have bx0 := HBX.out.below hsSteps
  have bl0 : Below B w sSteps := hsSteps.mono HBW.out
  have rowTiers0 := bk_below HRTiers.out hsSteps
  have keptTiers0 := HKTiers.out.below hsSteps
  have hz0 : B ≤ sSteps.heap.size := Nat.le_trans HBW.out hsSteps.size
  clear hsTexts hsInts hsRecords hsSamples hsTiers hsErrnos hsWords hsSteps hs0
  go_upto_region 25 with (first
    | (go_at_call 40; refine (HPTSteps.out _ (by assumption)).mono ?_; rintro e wq ⟨rfl, rfl⟩)
    | (go_at_call 41; refine (HPTTexts.out _ (by assumption)).mono ?_; rintro e wq ⟨rfl, rfl⟩)
    | (go_at_call 42; refine (HPTInts.out _ (by assumption)).mono ?_; rintro e wq ⟨rfl, rfl⟩)
    | (go_at_call 43; refine (HPTRecords.out _ (by assumption)).mono ?_; rintro e wq ⟨rfl, rfl⟩)
    | (go_at_call 44; refine (HPTSamples.out _ (by assumption)).mono ?_; rintro e wq ⟨rfl, rfl⟩)
    | (go_at_call 45
       refine (putTiers_any g B fs _ nTiers vsTiers lsTiers _ bx0 HETiers.out rowTiers0 keptTiers0 HNTiers.out).mono ?_
       rintro e wPTiers ⟨rfl, spPTiers, keptTiersPTiers⟩
       have bxPTiers := spPTiers.bx bx0 (by decide)
       have blPTiers := spPTiers.below bl0 (Nat.le_refl _) hz0
       have hzPTiers := Nat.le_trans hz0 spPTiers.size
       have rowTiersPTiers := spPTiers.own rowTiers0 (by decide)
       clear bx0 bl0 hz0 spPTiers rowTiers0 keptTiers0)
    | (go_at_call 46; refine (HPTErrnos.out _ (by assumption)).mono ?_; rintro e wq ⟨rfl, rfl⟩)
    | (go_at_call 47; refine (HPTWords.out _ (by assumption)).mono ?_; rintro e wq ⟨rfl, rfl⟩))
  go_wp2_with (first
    | (go_at_call 48; refine (HGRTexts.out _ (by assumption)).mono ?_; rintro e wq ⟨rfl, rfl⟩)
    | (go_at_call 49; refine (HGRInts.out _ (by assumption)).mono ?_; rintro e wq ⟨rfl, rfl⟩)
    | (go_at_call 50; refine (HGRRecords.out _ (by assumption)).mono ?_; rintro e wq ⟨rfl, rfl⟩)
    | (go_at_call 51; refine (HGRSamples.out _ (by assumption)).mono ?_; rintro e wq ⟨rfl, rfl⟩)
    | (go_at_call 52
       refine (growTiers_any g B fs _ nTiers vsTiers (marksAll mkTiers 0 lsTiers) _ bxPTiers HETiers.out rowTiersPTiers keptTiersPTiers HNTiers.out HMITiers.out HMFTiers.out hzPTiers).mono ?_
       rintro e wGTiers ⟨vgTiers, osTiers, msTiers, rfl, rgTiersGTiers, kgTiersGTiers, hmsTiers, spGTiers, keptTiersGTiers⟩
       obtain ⟨AgTiers, cgTiers, rfl, _⟩ := bk_sl rgTiersGTiers
       have HMSTiers := Lib.hid hmsTiers
       have bxGTiers := spGTiers.bx bxPTiers (by decide)
       have blGTiers := spGTiers.below blPTiers (Nat.le_refl _) hzPTiers
       have hzGTiers := Nat.le_trans hzPTiers spGTiers.size
       have rowTiersGTiers := spGTiers.own rowTiersPTiers (by decide)
       clear hmsTiers bxPTiers blPTiers hzPTiers spGTiers rowTiersPTiers keptTiersPTiers
       have y0GTiers := bxGTiers.at_ 0 HETexts.out
       have y1GTiers := bxGTiers.at_ 2 HEInts.out
       have y2GTiers := bxGTiers.at_ 4 HERecords.out
       have y3GTiers := bxGTiers.at_ 6 HESamples.out
       have y4GTiers := bxGTiers.at_ 8 HETiers.out
       have y5GTiers := bxGTiers.at_ 10 HEErrnos.out
       have y6GTiers := bxGTiers.at_ 12 HEWords.out
       have y7GTiers := bxGTiers.at_ 14 HESteps.out)
    | (go_at_call 53; refine (HGRErrnos.out _ (by assumption)).mono ?_; rintro e wq ⟨rfl, rfl⟩)
    | (go_at_call 54; refine (HGRWords.out _ (by assumption)).mono ?_; rintro e wq ⟨rfl, rfl⟩)
    | (go_at_call 55; refine (HGRSteps.out _ (by assumption)).mono ?_; rintro e wq ⟨rfl, rfl⟩)
    | (go_at_call 56; refine (markedNilTexts_any _).mono ?_; rintro e wq ⟨rfl, rfl⟩)
    | (go_at_call 57; refine (markedNilInts_any _).mono ?_; rintro e wq ⟨rfl, rfl⟩)
    | (go_at_call 58; refine (markedNilRecords_any _).mono ?_; rintro e wq ⟨rfl, rfl⟩)
    | (go_at_call 59; refine (markedNilSamples_any _).mono ?_; rintro e wq ⟨rfl, rfl⟩)
    | (go_at_call 60
       refine (markedTiers_any _ nTiers _ B vsTiers (marksAll mkTiers 0 lsTiers) _ rowTiersMTiers keptTiersMTiers HNTiers.out HMITiers.out).mono ?_
       rintro e wNTiers ⟨rfl, bbNTiers⟩
       have bxNTiers := bxMTiers.below bbNTiers
       have blNTiers := blMTiers.trans (bbNTiers.mono hzMTiers)
       have hzNTiers := Nat.le_trans hzMTiers bbNTiers.size
       have rowTiersNTiers := bk_below rowTiersMTiers bbNTiers
       have keptTiersNTiers := keptTiersMTiers.below bbNTiers
       have rgTiersNTiers := bk_below rgTiersMTiers bbNTiers
       have kgTiersNTiers := kgTiersMTiers.below bbNTiers
       have y0NTiers := bxNTiers.at_ 0 HETexts.out
       have y1NTiers := bxNTiers.at_ 2 HEInts.out
       have y2NTiers := bxNTiers.at_ 4 HERecords.out
       have y3NTiers := bxNTiers.at_ 6 HESamples.out
       have y4NTiers := bxNTiers.at_ 8 HETiers.out
       have y5NTiers := bxNTiers.at_ 10 HEErrnos.out
       have y6NTiers := bxNTiers.at_ 12 HEWords.out
       have y7NTiers := bxNTiers.at_ 14 HESteps.out
       clear bxMTiers blMTiers hzMTiers bbNTiers rowTiersMTiers keptTiersMTiers rgTiersMTiers kgTiersMTiers y0MTiers y1MTiers y2MTiers y3MTiers y4MTiers y5MTiers y6MTiers y7MTiers)
    | (go_at_call 60
       refine (markedTiers_any _ nTiers _ B osTiers msTiers _ rgTiersGTiers kgTiersGTiers HNTiers.out HMSTiers.out).mono ?_
       rintro e wMTiers ⟨rfl, bbMTiers⟩
       have bxMTiers := bxGTiers.below bbMTiers
       have blMTiers := blGTiers.trans (bbMTiers.mono hzGTiers)
       have hzMTiers := Nat.le_trans hzGTiers bbMTiers.size
       have rowTiersMTiers := bk_below rowTiersGTiers bbMTiers
       have keptTiersMTiers := keptTiersGTiers.below bbMTiers
       have rgTiersMTiers := bk_below rgTiersGTiers bbMTiers
       have kgTiersMTiers := kgTiersGTiers.below bbMTiers
       have y0MTiers := bxMTiers.at_ 0 HETexts.out
       have y1MTiers := bxMTiers.at_ 2 HEInts.out
       have y2MTiers := bxMTiers.at_ 4 HERecords.out
       have y3MTiers := bxMTiers.at_ 6 HESamples.out
       have y4MTiers := bxMTiers.at_ 8 HETiers.out
       have y5MTiers := bxMTiers.at_ 10 HEErrnos.out
       have y6MTiers := bxMTiers.at_ 12 HEWords.out
       have y7MTiers := bxMTiers.at_ 14 HESteps.out
       clear bxGTiers blGTiers hzGTiers bbMTiers rowTiersGTiers keptTiersGTiers rgTiersGTiers kgTiersGTiers y0GTiers y1GTiers y2GTiers y3GTiers y4GTiers y5GTiers y6GTiers y7GTiers)
    | (go_at_call 61; refine (markedNilErrnos_any _).mono ?_; rintro e wq ⟨rfl, rfl⟩)
    | (go_at_call 62; refine (markedNilWords_any _).mono ?_; rintro e wq ⟨rfl, rfl⟩)
    | (go_at_call 63; refine (markedNilSteps_any _).mono ?_; rintro e wq ⟨rfl, rfl⟩))
  go_ret
  exact ⟨rfl, blNTiers⟩
end Go.Proofs.YtnnamhomapagiaaGreatDoor
