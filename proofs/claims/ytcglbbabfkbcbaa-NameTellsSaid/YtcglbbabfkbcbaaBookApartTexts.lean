/-
  sedimentbook's Apart where Texts hold lists. (gen_apart.py prints this.)
-/
import Derived.Test.YtcglbbabfkbcbaaBookNil
import Derived.Test.YtcglbbabfkbcbaaBookTexts
import Derived.Test.YtcglbbabfkbcbaaBookTextsG
import Derived.Deep.DeepCutAuto
namespace Go.Proofs.Ytcglbbabfkbcbaa
open Go.RowKit Go.Deep

set_option maxRecDepth 100000 in
set_option maxHeartbeats 4000000 in
theorem apartTexts_any (g B : Nat) (fs : Array Value) (lsTexts : List (List ByteArray)) (w : World) (hB : Bx w g 44 fs) (hTexts : BkTexts w B fs lsTexts) (hnTexts : lsTexts.length ≤ 250) (hfTexts : ∀ l ∈ lsTexts, l.length ≤ 50000) (hBw : B ≤ w.heap.size) (hz : ∀ i, i < 16 → i ≠ 0 → i ≠ 1 → fs[i]? = some (.slice none 0 0)) :
    Calls Try.prog 19 #[.pointer (some ⟨g, 0, none⟩)] w fun e w' => e = .returned (.bool true) ∧ Below B w w' := by
  have HEInts := Lib.hid (hz 2 (by decide) (by decide) (by decide))
  have HERecords := Lib.hid (hz 4 (by decide) (by decide) (by decide))
  have HESamples := Lib.hid (hz 6 (by decide) (by decide) (by decide))
  have HETiers := Lib.hid (hz 8 (by decide) (by decide) (by decide))
  have HEErrnos := Lib.hid (hz 10 (by decide) (by decide) (by decide))
  have HEWords := Lib.hid (hz 12 (by decide) (by decide) (by decide))
  have HESteps := Lib.hid (hz 14 (by decide) (by decide) (by decide))
  clear hz
  have HHTexts := Lib.hid hTexts
  obtain ⟨vTexts, vsTexts, vWTexts, wsTexts, hxTexts, _, rTexts, _, _, kTexts, _⟩ := hTexts.ex
  obtain ⟨ATexts, cTexts, rfl, _⟩ := bk_sl rTexts
  have HFTexts := Lib.hid hfTexts
  have HNNTexts := Lib.hid (show lsTexts.length ≤ 250 ∧ (marksAll mkTexts 0 lsTexts).length = lsTexts.length from ⟨hnTexts, marksAll_len _ _ _⟩)
  obtain ⟨nTexts, hqTexts⟩ : ∃ n, n = lsTexts.length := ⟨_, rfl⟩
  rw [← hqTexts] at hxTexts rTexts hnTexts
  have HNTexts := Lib.hid hnTexts
  have HETexts := Lib.hid hxTexts
  have HRTexts := Lib.hid rTexts
  have HKTexts := Lib.hid kTexts
  have HSTTexts := Lib.hid (fun W (h : Below w.heap.size w W) => (stillTexts_any g B fs lsTexts W (hB.below h) (HHTexts.out.below h) (HNNTexts.out.1)).mono (fun e w' ⟨a, q, b⟩ => (⟨a, b ▸ below_drewN h q⟩ : e = Ending.returned (.bool true) ∧ Below w.heap.size w w')))
  have HMITexts := Lib.hid (fun (i : Nat) l (h : (marksAll mkTexts 0 lsTexts)[i]? = some l) => (marksAll_is mkTexts h).1)
  have HMFTexts := Lib.hid (marksAll_few mkTexts hfTexts)
  clear hfTexts hnTexts hxTexts rTexts kTexts hTexts hqTexts
  have HSTInts := Lib.hid (fun W (h : Below w.heap.size w W) => (stillNilInts_any g fs W (hB.below h) HEInts.out).mono (fun e w' ⟨a, q, b⟩ => (⟨a, b ▸ below_drewN h q⟩ : e = Ending.returned (.bool true) ∧ Below w.heap.size w w')))
  have HPTInts := Lib.hid (fun W (h : Bx W g 44 fs) => putNilInts_any g fs W h HEInts.out)
  have HGRInts := Lib.hid (fun W (h : Bx W g 44 fs) => growNilInts_any g fs W h HEInts.out)
  have HSTRecords := Lib.hid (fun W (h : Below w.heap.size w W) => (stillNilRecords_any g fs W (hB.below h) HERecords.out).mono (fun e w' ⟨a, q, b⟩ => (⟨a, b ▸ below_drewN h q⟩ : e = Ending.returned (.bool true) ∧ Below w.heap.size w w')))
  have HPTRecords := Lib.hid (fun W (h : Bx W g 44 fs) => putNilRecords_any g fs W h HERecords.out)
  have HGRRecords := Lib.hid (fun W (h : Bx W g 44 fs) => growNilRecords_any g fs W h HERecords.out)
  have HSTSamples := Lib.hid (fun W (h : Below w.heap.size w W) => (stillNilSamples_any g fs W (hB.below h) HESamples.out).mono (fun e w' ⟨a, q, b⟩ => (⟨a, b ▸ below_drewN h q⟩ : e = Ending.returned (.bool true) ∧ Below w.heap.size w w')))
  have HPTSamples := Lib.hid (fun W (h : Bx W g 44 fs) => putNilSamples_any g fs W h HESamples.out)
  have HGRSamples := Lib.hid (fun W (h : Bx W g 44 fs) => growNilSamples_any g fs W h HESamples.out)
  have HSTTiers := Lib.hid (fun W (h : Below w.heap.size w W) => (stillNilTiers_any g fs W (hB.below h) HETiers.out).mono (fun e w' ⟨a, q, b⟩ => (⟨a, b ▸ below_drewN h q⟩ : e = Ending.returned (.bool true) ∧ Below w.heap.size w w')))
  have HPTTiers := Lib.hid (fun W (h : Bx W g 44 fs) => putNilTiers_any g fs W h HETiers.out)
  have HGRTiers := Lib.hid (fun W (h : Bx W g 44 fs) => growNilTiers_any g fs W h HETiers.out)
  have HSTErrnos := Lib.hid (fun W (h : Below w.heap.size w W) => (stillNilErrnos_any g fs W (hB.below h) HEErrnos.out).mono (fun e w' ⟨a, q, b⟩ => (⟨a, b ▸ below_drewN h q⟩ : e = Ending.returned (.bool true) ∧ Below w.heap.size w w')))
  have HPTErrnos := Lib.hid (fun W (h : Bx W g 44 fs) => putNilErrnos_any g fs W h HEErrnos.out)
  have HGRErrnos := Lib.hid (fun W (h : Bx W g 44 fs) => growNilErrnos_any g fs W h HEErrnos.out)
  have HSTWords := Lib.hid (fun W (h : Below w.heap.size w W) => (stillNilWords_any g fs W (hB.below h) HEWords.out).mono (fun e w' ⟨a, q, b⟩ => (⟨a, b ▸ below_drewN h q⟩ : e = Ending.returned (.bool true) ∧ Below w.heap.size w w')))
  have HPTWords := Lib.hid (fun W (h : Bx W g 44 fs) => putNilWords_any g fs W h HEWords.out)
  have HGRWords := Lib.hid (fun W (h : Bx W g 44 fs) => growNilWords_any g fs W h HEWords.out)
  have HSTSteps := Lib.hid (fun W (h : Below w.heap.size w W) => (stillNilSteps_any g fs W (hB.below h) HESteps.out).mono (fun e w' ⟨a, q, b⟩ => (⟨a, b ▸ below_drewN h q⟩ : e = Ending.returned (.bool true) ∧ Below w.heap.size w w')))
  have HPTSteps := Lib.hid (fun W (h : Bx W g 44 fs) => putNilSteps_any g fs W h HESteps.out)
  have HGRSteps := Lib.hid (fun W (h : Bx W g 44 fs) => growNilSteps_any g fs W h HESteps.out)
  have HBX := Lib.hid hB
  have HBW := Lib.hid hBw
  have hs0 := Below.refl w.heap.size w
  clear hB hBw
  go_enter Try.func19, Try.ntmps19
  go_upto_region 17 with (first
    | (go_at_call 27; refine (HSTTexts.out _ (by assumption)).mono ?_; rintro e sTexts ⟨rfl, hsTexts⟩)
    | (go_at_call 28; refine (HSTInts.out _ (by assumption)).mono ?_; rintro e sInts ⟨rfl, hsInts⟩)
    | (go_at_call 29; refine (HSTRecords.out _ (by assumption)).mono ?_; rintro e sRecords ⟨rfl, hsRecords⟩)
    | (go_at_call 30; refine (HSTSamples.out _ (by assumption)).mono ?_; rintro e sSamples ⟨rfl, hsSamples⟩)
    | (go_at_call 31; refine (HSTTiers.out _ (by assumption)).mono ?_; rintro e sTiers ⟨rfl, hsTiers⟩)
    | (go_at_call 32; refine (HSTErrnos.out _ (by assumption)).mono ?_; rintro e sErrnos ⟨rfl, hsErrnos⟩)
    | (go_at_call 33; refine (HSTWords.out _ (by assumption)).mono ?_; rintro e sWords ⟨rfl, hsWords⟩)
    | (go_at_call 34; refine (HSTSteps.out _ (by assumption)).mono ?_; rintro e sSteps ⟨rfl, hsSteps⟩))
  have bx0 := HBX.out.below hsSteps
  have bl0 : Below B w sSteps := hsSteps.mono HBW.out
  have rowTexts0 := bk_below HRTexts.out hsSteps
  have keptTexts0 := HKTexts.out.below hsSteps
  have hz0 : B ≤ sSteps.heap.size := Nat.le_trans HBW.out hsSteps.size
  clear hsTexts hsInts hsRecords hsSamples hsTiers hsErrnos hsWords hsSteps hs0
  go_upto_region 25 with (first
    | (go_at_call 35; refine (HPTSteps.out _ (by assumption)).mono ?_; rintro e wq ⟨rfl, rfl⟩)
    | (go_at_call 36
       refine (putTexts_any g B fs _ nTexts vsTexts lsTexts _ bx0 HETexts.out rowTexts0 keptTexts0 HNTexts.out).mono ?_
       rintro e wPTexts ⟨rfl, spPTexts, keptTextsPTexts⟩
       have bxPTexts := spPTexts.bx bx0 (by decide)
       have blPTexts := spPTexts.below bl0 (Nat.le_refl _) hz0
       have hzPTexts := Nat.le_trans hz0 spPTexts.size
       have rowTextsPTexts := spPTexts.own rowTexts0 (by decide)
       clear bx0 bl0 hz0 spPTexts rowTexts0 keptTexts0)
    | (go_at_call 37; refine (HPTInts.out _ (by assumption)).mono ?_; rintro e wq ⟨rfl, rfl⟩)
    | (go_at_call 38; refine (HPTRecords.out _ (by assumption)).mono ?_; rintro e wq ⟨rfl, rfl⟩)
    | (go_at_call 39; refine (HPTSamples.out _ (by assumption)).mono ?_; rintro e wq ⟨rfl, rfl⟩)
    | (go_at_call 40; refine (HPTTiers.out _ (by assumption)).mono ?_; rintro e wq ⟨rfl, rfl⟩)
    | (go_at_call 41; refine (HPTErrnos.out _ (by assumption)).mono ?_; rintro e wq ⟨rfl, rfl⟩)
    | (go_at_call 42; refine (HPTWords.out _ (by assumption)).mono ?_; rintro e wq ⟨rfl, rfl⟩))
  go_wp2_with (first
    | (go_at_call 43
       refine (growTexts_any g B fs _ nTexts vsTexts (marksAll mkTexts 0 lsTexts) _ bxPTexts HETexts.out rowTextsPTexts keptTextsPTexts HNTexts.out HMITexts.out HMFTexts.out hzPTexts).mono ?_
       rintro e wGTexts ⟨vgTexts, osTexts, msTexts, rfl, rgTextsGTexts, kgTextsGTexts, hmsTexts, spGTexts, keptTextsGTexts⟩
       obtain ⟨AgTexts, cgTexts, rfl, _⟩ := bk_sl rgTextsGTexts
       have HMSTexts := Lib.hid hmsTexts
       have bxGTexts := spGTexts.bx bxPTexts (by decide)
       have blGTexts := spGTexts.below blPTexts (Nat.le_refl _) hzPTexts
       have hzGTexts := Nat.le_trans hzPTexts spGTexts.size
       have rowTextsGTexts := spGTexts.own rowTextsPTexts (by decide)
       clear hmsTexts bxPTexts blPTexts hzPTexts spGTexts rowTextsPTexts keptTextsPTexts
       have y0GTexts := bxGTexts.at_ 0 HETexts.out
       have y1GTexts := bxGTexts.at_ 2 HEInts.out
       have y2GTexts := bxGTexts.at_ 4 HERecords.out
       have y3GTexts := bxGTexts.at_ 6 HESamples.out
       have y4GTexts := bxGTexts.at_ 8 HETiers.out
       have y5GTexts := bxGTexts.at_ 10 HEErrnos.out
       have y6GTexts := bxGTexts.at_ 12 HEWords.out
       have y7GTexts := bxGTexts.at_ 14 HESteps.out)
    | (go_at_call 44; refine (HGRInts.out _ (by assumption)).mono ?_; rintro e wq ⟨rfl, rfl⟩)
    | (go_at_call 45; refine (HGRRecords.out _ (by assumption)).mono ?_; rintro e wq ⟨rfl, rfl⟩)
    | (go_at_call 46; refine (HGRSamples.out _ (by assumption)).mono ?_; rintro e wq ⟨rfl, rfl⟩)
    | (go_at_call 47; refine (HGRTiers.out _ (by assumption)).mono ?_; rintro e wq ⟨rfl, rfl⟩)
    | (go_at_call 48; refine (HGRErrnos.out _ (by assumption)).mono ?_; rintro e wq ⟨rfl, rfl⟩)
    | (go_at_call 49; refine (HGRWords.out _ (by assumption)).mono ?_; rintro e wq ⟨rfl, rfl⟩)
    | (go_at_call 50; refine (HGRSteps.out _ (by assumption)).mono ?_; rintro e wq ⟨rfl, rfl⟩)
    | (go_at_call 51
       refine (markedTexts_any _ nTexts _ B vsTexts (marksAll mkTexts 0 lsTexts) _ rowTextsMTexts keptTextsMTexts HNTexts.out HMITexts.out).mono ?_
       rintro e wNTexts ⟨rfl, bbNTexts⟩
       have bxNTexts := bxMTexts.below bbNTexts
       have blNTexts := blMTexts.trans (bbNTexts.mono hzMTexts)
       have hzNTexts := Nat.le_trans hzMTexts bbNTexts.size
       have rowTextsNTexts := bk_below rowTextsMTexts bbNTexts
       have keptTextsNTexts := keptTextsMTexts.below bbNTexts
       have rgTextsNTexts := bk_below rgTextsMTexts bbNTexts
       have kgTextsNTexts := kgTextsMTexts.below bbNTexts
       have y0NTexts := bxNTexts.at_ 0 HETexts.out
       have y1NTexts := bxNTexts.at_ 2 HEInts.out
       have y2NTexts := bxNTexts.at_ 4 HERecords.out
       have y3NTexts := bxNTexts.at_ 6 HESamples.out
       have y4NTexts := bxNTexts.at_ 8 HETiers.out
       have y5NTexts := bxNTexts.at_ 10 HEErrnos.out
       have y6NTexts := bxNTexts.at_ 12 HEWords.out
       have y7NTexts := bxNTexts.at_ 14 HESteps.out
       clear bxMTexts blMTexts hzMTexts bbNTexts rowTextsMTexts keptTextsMTexts rgTextsMTexts kgTextsMTexts y0MTexts y1MTexts y2MTexts y3MTexts y4MTexts y5MTexts y6MTexts y7MTexts)
    | (go_at_call 51
       refine (markedTexts_any _ nTexts _ B osTexts msTexts _ rgTextsGTexts kgTextsGTexts HNTexts.out HMSTexts.out).mono ?_
       rintro e wMTexts ⟨rfl, bbMTexts⟩
       have bxMTexts := bxGTexts.below bbMTexts
       have blMTexts := blGTexts.trans (bbMTexts.mono hzGTexts)
       have hzMTexts := Nat.le_trans hzGTexts bbMTexts.size
       have rowTextsMTexts := bk_below rowTextsGTexts bbMTexts
       have keptTextsMTexts := keptTextsGTexts.below bbMTexts
       have rgTextsMTexts := bk_below rgTextsGTexts bbMTexts
       have kgTextsMTexts := kgTextsGTexts.below bbMTexts
       have y0MTexts := bxMTexts.at_ 0 HETexts.out
       have y1MTexts := bxMTexts.at_ 2 HEInts.out
       have y2MTexts := bxMTexts.at_ 4 HERecords.out
       have y3MTexts := bxMTexts.at_ 6 HESamples.out
       have y4MTexts := bxMTexts.at_ 8 HETiers.out
       have y5MTexts := bxMTexts.at_ 10 HEErrnos.out
       have y6MTexts := bxMTexts.at_ 12 HEWords.out
       have y7MTexts := bxMTexts.at_ 14 HESteps.out
       clear bxGTexts blGTexts hzGTexts bbMTexts rowTextsGTexts keptTextsGTexts rgTextsGTexts kgTextsGTexts y0GTexts y1GTexts y2GTexts y3GTexts y4GTexts y5GTexts y6GTexts y7GTexts)
    | (go_at_call 52; refine (markedNilInts_any _).mono ?_; rintro e wq ⟨rfl, rfl⟩)
    | (go_at_call 53; refine (markedNilRecords_any _).mono ?_; rintro e wq ⟨rfl, rfl⟩)
    | (go_at_call 54; refine (markedNilSamples_any _).mono ?_; rintro e wq ⟨rfl, rfl⟩)
    | (go_at_call 55; refine (markedNilTiers_any _).mono ?_; rintro e wq ⟨rfl, rfl⟩)
    | (go_at_call 56; refine (markedNilErrnos_any _).mono ?_; rintro e wq ⟨rfl, rfl⟩)
    | (go_at_call 57; refine (markedNilWords_any _).mono ?_; rintro e wq ⟨rfl, rfl⟩)
    | (go_at_call 58; refine (markedNilSteps_any _).mono ?_; rintro e wq ⟨rfl, rfl⟩))
  go_ret
  exact ⟨rfl, blNTexts⟩
end Go.Proofs.Ytcglbbabfkbcbaa
