/-
  sedimentbook's Apart where Words hold lists. (gen_apart.py prints this.)
-/
import Derived.Test.YtcglbbabfkbcbabDoorBookNil
import Derived.Test.YtcglbbabfkbcbabDoorBookWords
import Derived.Test.YtcglbbabfkbcbabDoorBookWordsG
import Derived.Deep.DeepCutAuto
namespace Go.Proofs.YtcglbbabfkbcbabDoor
open Go.RowKit Go.Deep

set_option maxRecDepth 100000 in
set_option maxHeartbeats 4000000 in
theorem apartWords_any (g B : Nat) (fs : Array Value) (lsWords : List (List Wd)) (w : World) (hB : Bx w g 41 fs) (hWords : BkWords w B fs lsWords) (hnWords : lsWords.length ≤ 250) (hfWords : ∀ l ∈ lsWords, l.length ≤ 50000) (hBw : B ≤ w.heap.size) (hz : ∀ i, i < 16 → i ≠ 12 → i ≠ 13 → fs[i]? = some (.slice none 0 0)) :
    Calls Tryd.prog 13 #[.pointer (some ⟨g, 0, none⟩)] w fun e w' => e = .returned (.bool true) ∧ Below B w w' := by
  have HETexts := Lib.hid (hz 0 (by decide) (by decide) (by decide))
  have HEInts := Lib.hid (hz 2 (by decide) (by decide) (by decide))
  have HERecords := Lib.hid (hz 4 (by decide) (by decide) (by decide))
  have HESamples := Lib.hid (hz 6 (by decide) (by decide) (by decide))
  have HETiers := Lib.hid (hz 8 (by decide) (by decide) (by decide))
  have HEErrnos := Lib.hid (hz 10 (by decide) (by decide) (by decide))
  have HESteps := Lib.hid (hz 14 (by decide) (by decide) (by decide))
  clear hz
  have HHWords := Lib.hid hWords
  obtain ⟨vWords, vsWords, vWWords, wsWords, hxWords, _, rWords, _, _, kWords, _⟩ := hWords.ex
  obtain ⟨AWords, cWords, rfl, _⟩ := bk_sl rWords
  have HFWords := Lib.hid hfWords
  have HNNWords := Lib.hid (show lsWords.length ≤ 250 ∧ (marksAll mkWords 0 lsWords).length = lsWords.length from ⟨hnWords, marksAll_len _ _ _⟩)
  obtain ⟨nWords, hqWords⟩ : ∃ n, n = lsWords.length := ⟨_, rfl⟩
  rw [← hqWords] at hxWords rWords hnWords
  have HNWords := Lib.hid hnWords
  have HEWords := Lib.hid hxWords
  have HRWords := Lib.hid rWords
  have HKWords := Lib.hid kWords
  have HSTWords := Lib.hid (fun W (h : Below w.heap.size w W) => (stillWords_any g B fs lsWords W (hB.below h) (HHWords.out.below h) (HNNWords.out.1)).mono (fun e w' ⟨a, q, b⟩ => (⟨a, b ▸ below_drewN h q⟩ : e = Ending.returned (.bool true) ∧ Below w.heap.size w w')))
  have HMIWords := Lib.hid (fun (i : Nat) l (h : (marksAll mkWords 0 lsWords)[i]? = some l) => (marksAll_is mkWords h).1)
  have HMFWords := Lib.hid (marksAll_few mkWords hfWords)
  clear hfWords hnWords hxWords rWords kWords hWords hqWords
  have HSTTexts := Lib.hid (fun W (h : Below w.heap.size w W) => (stillNilTexts_any g fs W (hB.below h) HETexts.out).mono (fun e w' ⟨a, q, b⟩ => (⟨a, b ▸ below_drewN h q⟩ : e = Ending.returned (.bool true) ∧ Below w.heap.size w w')))
  have HPTTexts := Lib.hid (fun W (h : Bx W g 41 fs) => putNilTexts_any g fs W h HETexts.out)
  have HGRTexts := Lib.hid (fun W (h : Bx W g 41 fs) => growNilTexts_any g fs W h HETexts.out)
  have HSTInts := Lib.hid (fun W (h : Below w.heap.size w W) => (stillNilInts_any g fs W (hB.below h) HEInts.out).mono (fun e w' ⟨a, q, b⟩ => (⟨a, b ▸ below_drewN h q⟩ : e = Ending.returned (.bool true) ∧ Below w.heap.size w w')))
  have HPTInts := Lib.hid (fun W (h : Bx W g 41 fs) => putNilInts_any g fs W h HEInts.out)
  have HGRInts := Lib.hid (fun W (h : Bx W g 41 fs) => growNilInts_any g fs W h HEInts.out)
  have HSTRecords := Lib.hid (fun W (h : Below w.heap.size w W) => (stillNilRecords_any g fs W (hB.below h) HERecords.out).mono (fun e w' ⟨a, q, b⟩ => (⟨a, b ▸ below_drewN h q⟩ : e = Ending.returned (.bool true) ∧ Below w.heap.size w w')))
  have HPTRecords := Lib.hid (fun W (h : Bx W g 41 fs) => putNilRecords_any g fs W h HERecords.out)
  have HGRRecords := Lib.hid (fun W (h : Bx W g 41 fs) => growNilRecords_any g fs W h HERecords.out)
  have HSTSamples := Lib.hid (fun W (h : Below w.heap.size w W) => (stillNilSamples_any g fs W (hB.below h) HESamples.out).mono (fun e w' ⟨a, q, b⟩ => (⟨a, b ▸ below_drewN h q⟩ : e = Ending.returned (.bool true) ∧ Below w.heap.size w w')))
  have HPTSamples := Lib.hid (fun W (h : Bx W g 41 fs) => putNilSamples_any g fs W h HESamples.out)
  have HGRSamples := Lib.hid (fun W (h : Bx W g 41 fs) => growNilSamples_any g fs W h HESamples.out)
  have HSTTiers := Lib.hid (fun W (h : Below w.heap.size w W) => (stillNilTiers_any g fs W (hB.below h) HETiers.out).mono (fun e w' ⟨a, q, b⟩ => (⟨a, b ▸ below_drewN h q⟩ : e = Ending.returned (.bool true) ∧ Below w.heap.size w w')))
  have HPTTiers := Lib.hid (fun W (h : Bx W g 41 fs) => putNilTiers_any g fs W h HETiers.out)
  have HGRTiers := Lib.hid (fun W (h : Bx W g 41 fs) => growNilTiers_any g fs W h HETiers.out)
  have HSTErrnos := Lib.hid (fun W (h : Below w.heap.size w W) => (stillNilErrnos_any g fs W (hB.below h) HEErrnos.out).mono (fun e w' ⟨a, q, b⟩ => (⟨a, b ▸ below_drewN h q⟩ : e = Ending.returned (.bool true) ∧ Below w.heap.size w w')))
  have HPTErrnos := Lib.hid (fun W (h : Bx W g 41 fs) => putNilErrnos_any g fs W h HEErrnos.out)
  have HGRErrnos := Lib.hid (fun W (h : Bx W g 41 fs) => growNilErrnos_any g fs W h HEErrnos.out)
  have HSTSteps := Lib.hid (fun W (h : Below w.heap.size w W) => (stillNilSteps_any g fs W (hB.below h) HESteps.out).mono (fun e w' ⟨a, q, b⟩ => (⟨a, b ▸ below_drewN h q⟩ : e = Ending.returned (.bool true) ∧ Below w.heap.size w w')))
  have HPTSteps := Lib.hid (fun W (h : Bx W g 41 fs) => putNilSteps_any g fs W h HESteps.out)
  have HGRSteps := Lib.hid (fun W (h : Bx W g 41 fs) => growNilSteps_any g fs W h HESteps.out)
  have HBX := Lib.hid hB
  have HBW := Lib.hid hBw
  have hs0 := Below.refl w.heap.size w
  clear hB hBw
  go_enter Tryd.func13, Tryd.ntmps13
  go_upto_region 17 with (first
    | (go_at_call 18; refine (HSTTexts.out _ (by assumption)).mono ?_; rintro e sTexts ⟨rfl, hsTexts⟩)
    | (go_at_call 19; refine (HSTInts.out _ (by assumption)).mono ?_; rintro e sInts ⟨rfl, hsInts⟩)
    | (go_at_call 20; refine (HSTRecords.out _ (by assumption)).mono ?_; rintro e sRecords ⟨rfl, hsRecords⟩)
    | (go_at_call 21; refine (HSTSamples.out _ (by assumption)).mono ?_; rintro e sSamples ⟨rfl, hsSamples⟩)
    | (go_at_call 22; refine (HSTTiers.out _ (by assumption)).mono ?_; rintro e sTiers ⟨rfl, hsTiers⟩)
    | (go_at_call 23; refine (HSTErrnos.out _ (by assumption)).mono ?_; rintro e sErrnos ⟨rfl, hsErrnos⟩)
    | (go_at_call 24; refine (HSTWords.out _ (by assumption)).mono ?_; rintro e sWords ⟨rfl, hsWords⟩)
    | (go_at_call 25; refine (HSTSteps.out _ (by assumption)).mono ?_; rintro e sSteps ⟨rfl, hsSteps⟩))
  have bx0 := HBX.out.below hsSteps
  have bl0 : Below B w sSteps := hsSteps.mono HBW.out
  have rowWords0 := bk_below HRWords.out hsSteps
  have keptWords0 := HKWords.out.below hsSteps
  have hz0 : B ≤ sSteps.heap.size := Nat.le_trans HBW.out hsSteps.size
  clear hsTexts hsInts hsRecords hsSamples hsTiers hsErrnos hsWords hsSteps hs0
  go_upto_region 25 with (first
    | (go_at_call 26; refine (HPTSteps.out _ (by assumption)).mono ?_; rintro e wq ⟨rfl, rfl⟩)
    | (go_at_call 27; refine (HPTTexts.out _ (by assumption)).mono ?_; rintro e wq ⟨rfl, rfl⟩)
    | (go_at_call 28; refine (HPTInts.out _ (by assumption)).mono ?_; rintro e wq ⟨rfl, rfl⟩)
    | (go_at_call 29; refine (HPTRecords.out _ (by assumption)).mono ?_; rintro e wq ⟨rfl, rfl⟩)
    | (go_at_call 30; refine (HPTSamples.out _ (by assumption)).mono ?_; rintro e wq ⟨rfl, rfl⟩)
    | (go_at_call 31; refine (HPTTiers.out _ (by assumption)).mono ?_; rintro e wq ⟨rfl, rfl⟩)
    | (go_at_call 32; refine (HPTErrnos.out _ (by assumption)).mono ?_; rintro e wq ⟨rfl, rfl⟩)
    | (go_at_call 33
       refine (putWords_any g B fs _ nWords vsWords lsWords _ bx0 HEWords.out rowWords0 keptWords0 HNWords.out).mono ?_
       rintro e wPWords ⟨rfl, spPWords, keptWordsPWords⟩
       have bxPWords := spPWords.bx bx0 (by decide)
       have blPWords := spPWords.below bl0 (Nat.le_refl _) hz0
       have hzPWords := Nat.le_trans hz0 spPWords.size
       have rowWordsPWords := spPWords.own rowWords0 (by decide)
       clear bx0 bl0 hz0 spPWords rowWords0 keptWords0))
  go_wp2_with (first
    | (go_at_call 34; refine (HGRTexts.out _ (by assumption)).mono ?_; rintro e wq ⟨rfl, rfl⟩)
    | (go_at_call 35; refine (HGRInts.out _ (by assumption)).mono ?_; rintro e wq ⟨rfl, rfl⟩)
    | (go_at_call 36; refine (HGRRecords.out _ (by assumption)).mono ?_; rintro e wq ⟨rfl, rfl⟩)
    | (go_at_call 37; refine (HGRSamples.out _ (by assumption)).mono ?_; rintro e wq ⟨rfl, rfl⟩)
    | (go_at_call 38; refine (HGRTiers.out _ (by assumption)).mono ?_; rintro e wq ⟨rfl, rfl⟩)
    | (go_at_call 39; refine (HGRErrnos.out _ (by assumption)).mono ?_; rintro e wq ⟨rfl, rfl⟩)
    | (go_at_call 40
       refine (growWords_any g B fs _ nWords vsWords (marksAll mkWords 0 lsWords) _ bxPWords HEWords.out rowWordsPWords keptWordsPWords HNWords.out HMIWords.out HMFWords.out hzPWords).mono ?_
       rintro e wGWords ⟨vgWords, osWords, msWords, rfl, rgWordsGWords, kgWordsGWords, hmsWords, spGWords, keptWordsGWords⟩
       obtain ⟨AgWords, cgWords, rfl, _⟩ := bk_sl rgWordsGWords
       have HMSWords := Lib.hid hmsWords
       have bxGWords := spGWords.bx bxPWords (by decide)
       have blGWords := spGWords.below blPWords (Nat.le_refl _) hzPWords
       have hzGWords := Nat.le_trans hzPWords spGWords.size
       have rowWordsGWords := spGWords.own rowWordsPWords (by decide)
       clear hmsWords bxPWords blPWords hzPWords spGWords rowWordsPWords keptWordsPWords
       have y0GWords := bxGWords.at_ 0 HETexts.out
       have y1GWords := bxGWords.at_ 2 HEInts.out
       have y2GWords := bxGWords.at_ 4 HERecords.out
       have y3GWords := bxGWords.at_ 6 HESamples.out
       have y4GWords := bxGWords.at_ 8 HETiers.out
       have y5GWords := bxGWords.at_ 10 HEErrnos.out
       have y6GWords := bxGWords.at_ 12 HEWords.out
       have y7GWords := bxGWords.at_ 14 HESteps.out)
    | (go_at_call 41; refine (HGRSteps.out _ (by assumption)).mono ?_; rintro e wq ⟨rfl, rfl⟩)
    | (go_at_call 42; refine (markedNilTexts_any _).mono ?_; rintro e wq ⟨rfl, rfl⟩)
    | (go_at_call 43; refine (markedNilInts_any _).mono ?_; rintro e wq ⟨rfl, rfl⟩)
    | (go_at_call 44; refine (markedNilRecords_any _).mono ?_; rintro e wq ⟨rfl, rfl⟩)
    | (go_at_call 45; refine (markedNilSamples_any _).mono ?_; rintro e wq ⟨rfl, rfl⟩)
    | (go_at_call 46; refine (markedNilTiers_any _).mono ?_; rintro e wq ⟨rfl, rfl⟩)
    | (go_at_call 47; refine (markedNilErrnos_any _).mono ?_; rintro e wq ⟨rfl, rfl⟩)
    | (go_at_call 48
       refine (markedWords_any _ nWords _ B vsWords (marksAll mkWords 0 lsWords) _ rowWordsMWords keptWordsMWords HNWords.out HMIWords.out).mono ?_
       rintro e wNWords ⟨rfl, bbNWords⟩
       have bxNWords := bxMWords.below bbNWords
       have blNWords := blMWords.trans (bbNWords.mono hzMWords)
       have hzNWords := Nat.le_trans hzMWords bbNWords.size
       have rowWordsNWords := bk_below rowWordsMWords bbNWords
       have keptWordsNWords := keptWordsMWords.below bbNWords
       have rgWordsNWords := bk_below rgWordsMWords bbNWords
       have kgWordsNWords := kgWordsMWords.below bbNWords
       have y0NWords := bxNWords.at_ 0 HETexts.out
       have y1NWords := bxNWords.at_ 2 HEInts.out
       have y2NWords := bxNWords.at_ 4 HERecords.out
       have y3NWords := bxNWords.at_ 6 HESamples.out
       have y4NWords := bxNWords.at_ 8 HETiers.out
       have y5NWords := bxNWords.at_ 10 HEErrnos.out
       have y6NWords := bxNWords.at_ 12 HEWords.out
       have y7NWords := bxNWords.at_ 14 HESteps.out
       clear bxMWords blMWords hzMWords bbNWords rowWordsMWords keptWordsMWords rgWordsMWords kgWordsMWords y0MWords y1MWords y2MWords y3MWords y4MWords y5MWords y6MWords y7MWords)
    | (go_at_call 48
       refine (markedWords_any _ nWords _ B osWords msWords _ rgWordsGWords kgWordsGWords HNWords.out HMSWords.out).mono ?_
       rintro e wMWords ⟨rfl, bbMWords⟩
       have bxMWords := bxGWords.below bbMWords
       have blMWords := blGWords.trans (bbMWords.mono hzGWords)
       have hzMWords := Nat.le_trans hzGWords bbMWords.size
       have rowWordsMWords := bk_below rowWordsGWords bbMWords
       have keptWordsMWords := keptWordsGWords.below bbMWords
       have rgWordsMWords := bk_below rgWordsGWords bbMWords
       have kgWordsMWords := kgWordsGWords.below bbMWords
       have y0MWords := bxMWords.at_ 0 HETexts.out
       have y1MWords := bxMWords.at_ 2 HEInts.out
       have y2MWords := bxMWords.at_ 4 HERecords.out
       have y3MWords := bxMWords.at_ 6 HESamples.out
       have y4MWords := bxMWords.at_ 8 HETiers.out
       have y5MWords := bxMWords.at_ 10 HEErrnos.out
       have y6MWords := bxMWords.at_ 12 HEWords.out
       have y7MWords := bxMWords.at_ 14 HESteps.out
       clear bxGWords blGWords hzGWords bbMWords rowWordsGWords keptWordsGWords rgWordsGWords kgWordsGWords y0GWords y1GWords y2GWords y3GWords y4GWords y5GWords y6GWords y7GWords)
    | (go_at_call 49; refine (markedNilSteps_any _).mono ?_; rintro e wq ⟨rfl, rfl⟩))
  go_ret
  exact ⟨rfl, blNWords⟩
end Go.Proofs.YtcglbbabfkbcbabDoor
