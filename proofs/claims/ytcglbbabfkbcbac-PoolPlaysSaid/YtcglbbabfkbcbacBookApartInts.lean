/-
  sedimentbook's Apart where Ints hold lists. (gen_apart.py prints this.)
-/
import Derived.Test.YtcglbbabfkbcbacBookNil
import Derived.Test.YtcglbbabfkbcbacBookInts
import Derived.Test.YtcglbbabfkbcbacBookIntsG
import Derived.Deep.DeepCutAuto
namespace Go.Proofs.Ytcglbbabfkbcbac
open Go.RowKit Go.Deep

set_option maxRecDepth 100000 in
set_option maxHeartbeats 4000000 in
theorem apartInts_any (g B : Nat) (fs : Array Value) (lsInts : List (List Int)) (w : World) (hB : Bx w g 42 fs) (hInts : BkInts w B fs lsInts) (hnInts : lsInts.length ≤ 250) (hfInts : ∀ l ∈ lsInts, l.length ≤ 50000) (hBw : B ≤ w.heap.size) (hz : ∀ i, i < 16 → i ≠ 2 → i ≠ 3 → fs[i]? = some (.slice none 0 0)) :
    Calls Try.prog 19 #[.pointer (some ⟨g, 0, none⟩)] w fun e w' => e = .returned (.bool true) ∧ Below B w w' := by
  have HETexts := Lib.hid (hz 0 (by decide) (by decide) (by decide))
  have HERecords := Lib.hid (hz 4 (by decide) (by decide) (by decide))
  have HESamples := Lib.hid (hz 6 (by decide) (by decide) (by decide))
  have HETiers := Lib.hid (hz 8 (by decide) (by decide) (by decide))
  have HEErrnos := Lib.hid (hz 10 (by decide) (by decide) (by decide))
  have HEWords := Lib.hid (hz 12 (by decide) (by decide) (by decide))
  have HESteps := Lib.hid (hz 14 (by decide) (by decide) (by decide))
  clear hz
  have HHInts := Lib.hid hInts
  obtain ⟨vInts, vsInts, vWInts, wsInts, hxInts, _, rInts, _, _, kInts, _⟩ := hInts.ex
  obtain ⟨AInts, cInts, rfl, _⟩ := bk_sl rInts
  have HFInts := Lib.hid hfInts
  have HNNInts := Lib.hid (show lsInts.length ≤ 250 ∧ (marksAll mkInts 0 lsInts).length = lsInts.length from ⟨hnInts, marksAll_len _ _ _⟩)
  obtain ⟨nInts, hqInts⟩ : ∃ n, n = lsInts.length := ⟨_, rfl⟩
  rw [← hqInts] at hxInts rInts hnInts
  have HNInts := Lib.hid hnInts
  have HEInts := Lib.hid hxInts
  have HRInts := Lib.hid rInts
  have HKInts := Lib.hid kInts
  have HSTInts := Lib.hid (fun W (h : Below w.heap.size w W) => (stillInts_any g B fs lsInts W (hB.below h) (HHInts.out.below h) (HNNInts.out.1)).mono (fun e w' ⟨a, q, b⟩ => (⟨a, b ▸ below_drewN h q⟩ : e = Ending.returned (.bool true) ∧ Below w.heap.size w w')))
  have HMIInts := Lib.hid (fun (i : Nat) l (h : (marksAll mkInts 0 lsInts)[i]? = some l) => (marksAll_is mkInts h).1)
  have HMFInts := Lib.hid (marksAll_few mkInts hfInts)
  clear hfInts hnInts hxInts rInts kInts hInts hqInts
  have HSTTexts := Lib.hid (fun W (h : Below w.heap.size w W) => (stillNilTexts_any g fs W (hB.below h) HETexts.out).mono (fun e w' ⟨a, q, b⟩ => (⟨a, b ▸ below_drewN h q⟩ : e = Ending.returned (.bool true) ∧ Below w.heap.size w w')))
  have HPTTexts := Lib.hid (fun W (h : Bx W g 42 fs) => putNilTexts_any g fs W h HETexts.out)
  have HGRTexts := Lib.hid (fun W (h : Bx W g 42 fs) => growNilTexts_any g fs W h HETexts.out)
  have HSTRecords := Lib.hid (fun W (h : Below w.heap.size w W) => (stillNilRecords_any g fs W (hB.below h) HERecords.out).mono (fun e w' ⟨a, q, b⟩ => (⟨a, b ▸ below_drewN h q⟩ : e = Ending.returned (.bool true) ∧ Below w.heap.size w w')))
  have HPTRecords := Lib.hid (fun W (h : Bx W g 42 fs) => putNilRecords_any g fs W h HERecords.out)
  have HGRRecords := Lib.hid (fun W (h : Bx W g 42 fs) => growNilRecords_any g fs W h HERecords.out)
  have HSTSamples := Lib.hid (fun W (h : Below w.heap.size w W) => (stillNilSamples_any g fs W (hB.below h) HESamples.out).mono (fun e w' ⟨a, q, b⟩ => (⟨a, b ▸ below_drewN h q⟩ : e = Ending.returned (.bool true) ∧ Below w.heap.size w w')))
  have HPTSamples := Lib.hid (fun W (h : Bx W g 42 fs) => putNilSamples_any g fs W h HESamples.out)
  have HGRSamples := Lib.hid (fun W (h : Bx W g 42 fs) => growNilSamples_any g fs W h HESamples.out)
  have HSTTiers := Lib.hid (fun W (h : Below w.heap.size w W) => (stillNilTiers_any g fs W (hB.below h) HETiers.out).mono (fun e w' ⟨a, q, b⟩ => (⟨a, b ▸ below_drewN h q⟩ : e = Ending.returned (.bool true) ∧ Below w.heap.size w w')))
  have HPTTiers := Lib.hid (fun W (h : Bx W g 42 fs) => putNilTiers_any g fs W h HETiers.out)
  have HGRTiers := Lib.hid (fun W (h : Bx W g 42 fs) => growNilTiers_any g fs W h HETiers.out)
  have HSTErrnos := Lib.hid (fun W (h : Below w.heap.size w W) => (stillNilErrnos_any g fs W (hB.below h) HEErrnos.out).mono (fun e w' ⟨a, q, b⟩ => (⟨a, b ▸ below_drewN h q⟩ : e = Ending.returned (.bool true) ∧ Below w.heap.size w w')))
  have HPTErrnos := Lib.hid (fun W (h : Bx W g 42 fs) => putNilErrnos_any g fs W h HEErrnos.out)
  have HGRErrnos := Lib.hid (fun W (h : Bx W g 42 fs) => growNilErrnos_any g fs W h HEErrnos.out)
  have HSTWords := Lib.hid (fun W (h : Below w.heap.size w W) => (stillNilWords_any g fs W (hB.below h) HEWords.out).mono (fun e w' ⟨a, q, b⟩ => (⟨a, b ▸ below_drewN h q⟩ : e = Ending.returned (.bool true) ∧ Below w.heap.size w w')))
  have HPTWords := Lib.hid (fun W (h : Bx W g 42 fs) => putNilWords_any g fs W h HEWords.out)
  have HGRWords := Lib.hid (fun W (h : Bx W g 42 fs) => growNilWords_any g fs W h HEWords.out)
  have HSTSteps := Lib.hid (fun W (h : Below w.heap.size w W) => (stillNilSteps_any g fs W (hB.below h) HESteps.out).mono (fun e w' ⟨a, q, b⟩ => (⟨a, b ▸ below_drewN h q⟩ : e = Ending.returned (.bool true) ∧ Below w.heap.size w w')))
  have HPTSteps := Lib.hid (fun W (h : Bx W g 42 fs) => putNilSteps_any g fs W h HESteps.out)
  have HGRSteps := Lib.hid (fun W (h : Bx W g 42 fs) => growNilSteps_any g fs W h HESteps.out)
  have HBX := Lib.hid hB
  have HBW := Lib.hid hBw
  have hs0 := Below.refl w.heap.size w
  clear hB hBw
  go_enter Try.func19, Try.ntmps19
  go_upto_region 17 with (first
    | (go_at_call 26; refine (HSTTexts.out _ (by assumption)).mono ?_; rintro e sTexts ⟨rfl, hsTexts⟩)
    | (go_at_call 27; refine (HSTInts.out _ (by assumption)).mono ?_; rintro e sInts ⟨rfl, hsInts⟩)
    | (go_at_call 28; refine (HSTRecords.out _ (by assumption)).mono ?_; rintro e sRecords ⟨rfl, hsRecords⟩)
    | (go_at_call 29; refine (HSTSamples.out _ (by assumption)).mono ?_; rintro e sSamples ⟨rfl, hsSamples⟩)
    | (go_at_call 30; refine (HSTTiers.out _ (by assumption)).mono ?_; rintro e sTiers ⟨rfl, hsTiers⟩)
    | (go_at_call 31; refine (HSTErrnos.out _ (by assumption)).mono ?_; rintro e sErrnos ⟨rfl, hsErrnos⟩)
    | (go_at_call 32; refine (HSTWords.out _ (by assumption)).mono ?_; rintro e sWords ⟨rfl, hsWords⟩)
    | (go_at_call 33; refine (HSTSteps.out _ (by assumption)).mono ?_; rintro e sSteps ⟨rfl, hsSteps⟩))
  have bx0 := HBX.out.below hsSteps
  have bl0 : Below B w sSteps := hsSteps.mono HBW.out
  have rowInts0 := bk_below HRInts.out hsSteps
  have keptInts0 := HKInts.out.below hsSteps
  have hz0 : B ≤ sSteps.heap.size := Nat.le_trans HBW.out hsSteps.size
  clear hsTexts hsInts hsRecords hsSamples hsTiers hsErrnos hsWords hsSteps hs0
  go_upto_region 25 with (first
    | (go_at_call 34; refine (HPTSteps.out _ (by assumption)).mono ?_; rintro e wq ⟨rfl, rfl⟩)
    | (go_at_call 35; refine (HPTTexts.out _ (by assumption)).mono ?_; rintro e wq ⟨rfl, rfl⟩)
    | (go_at_call 36
       refine (putInts_any g B fs _ nInts vsInts lsInts _ bx0 HEInts.out rowInts0 keptInts0 HNInts.out).mono ?_
       rintro e wPInts ⟨rfl, spPInts, keptIntsPInts⟩
       have bxPInts := spPInts.bx bx0 (by decide)
       have blPInts := spPInts.below bl0 (Nat.le_refl _) hz0
       have hzPInts := Nat.le_trans hz0 spPInts.size
       have rowIntsPInts := spPInts.own rowInts0 (by decide)
       clear bx0 bl0 hz0 spPInts rowInts0 keptInts0)
    | (go_at_call 37; refine (HPTRecords.out _ (by assumption)).mono ?_; rintro e wq ⟨rfl, rfl⟩)
    | (go_at_call 38; refine (HPTSamples.out _ (by assumption)).mono ?_; rintro e wq ⟨rfl, rfl⟩)
    | (go_at_call 39; refine (HPTTiers.out _ (by assumption)).mono ?_; rintro e wq ⟨rfl, rfl⟩)
    | (go_at_call 40; refine (HPTErrnos.out _ (by assumption)).mono ?_; rintro e wq ⟨rfl, rfl⟩)
    | (go_at_call 41; refine (HPTWords.out _ (by assumption)).mono ?_; rintro e wq ⟨rfl, rfl⟩))
  go_wp2_with (first
    | (go_at_call 42; refine (HGRTexts.out _ (by assumption)).mono ?_; rintro e wq ⟨rfl, rfl⟩)
    | (go_at_call 43
       refine (growInts_any g B fs _ nInts vsInts (marksAll mkInts 0 lsInts) _ bxPInts HEInts.out rowIntsPInts keptIntsPInts HNInts.out HMIInts.out HMFInts.out hzPInts).mono ?_
       rintro e wGInts ⟨vgInts, osInts, msInts, rfl, rgIntsGInts, kgIntsGInts, hmsInts, spGInts, keptIntsGInts⟩
       obtain ⟨AgInts, cgInts, rfl, _⟩ := bk_sl rgIntsGInts
       have HMSInts := Lib.hid hmsInts
       have bxGInts := spGInts.bx bxPInts (by decide)
       have blGInts := spGInts.below blPInts (Nat.le_refl _) hzPInts
       have hzGInts := Nat.le_trans hzPInts spGInts.size
       have rowIntsGInts := spGInts.own rowIntsPInts (by decide)
       clear hmsInts bxPInts blPInts hzPInts spGInts rowIntsPInts keptIntsPInts
       have y0GInts := bxGInts.at_ 0 HETexts.out
       have y1GInts := bxGInts.at_ 2 HEInts.out
       have y2GInts := bxGInts.at_ 4 HERecords.out
       have y3GInts := bxGInts.at_ 6 HESamples.out
       have y4GInts := bxGInts.at_ 8 HETiers.out
       have y5GInts := bxGInts.at_ 10 HEErrnos.out
       have y6GInts := bxGInts.at_ 12 HEWords.out
       have y7GInts := bxGInts.at_ 14 HESteps.out)
    | (go_at_call 44; refine (HGRRecords.out _ (by assumption)).mono ?_; rintro e wq ⟨rfl, rfl⟩)
    | (go_at_call 45; refine (HGRSamples.out _ (by assumption)).mono ?_; rintro e wq ⟨rfl, rfl⟩)
    | (go_at_call 46; refine (HGRTiers.out _ (by assumption)).mono ?_; rintro e wq ⟨rfl, rfl⟩)
    | (go_at_call 47; refine (HGRErrnos.out _ (by assumption)).mono ?_; rintro e wq ⟨rfl, rfl⟩)
    | (go_at_call 48; refine (HGRWords.out _ (by assumption)).mono ?_; rintro e wq ⟨rfl, rfl⟩)
    | (go_at_call 49; refine (HGRSteps.out _ (by assumption)).mono ?_; rintro e wq ⟨rfl, rfl⟩)
    | (go_at_call 50; refine (markedNilTexts_any _).mono ?_; rintro e wq ⟨rfl, rfl⟩)
    | (go_at_call 51
       refine (markedInts_any _ nInts _ B vsInts (marksAll mkInts 0 lsInts) _ rowIntsMInts keptIntsMInts HNInts.out HMIInts.out).mono ?_
       rintro e wNInts ⟨rfl, bbNInts⟩
       have bxNInts := bxMInts.below bbNInts
       have blNInts := blMInts.trans (bbNInts.mono hzMInts)
       have hzNInts := Nat.le_trans hzMInts bbNInts.size
       have rowIntsNInts := bk_below rowIntsMInts bbNInts
       have keptIntsNInts := keptIntsMInts.below bbNInts
       have rgIntsNInts := bk_below rgIntsMInts bbNInts
       have kgIntsNInts := kgIntsMInts.below bbNInts
       have y0NInts := bxNInts.at_ 0 HETexts.out
       have y1NInts := bxNInts.at_ 2 HEInts.out
       have y2NInts := bxNInts.at_ 4 HERecords.out
       have y3NInts := bxNInts.at_ 6 HESamples.out
       have y4NInts := bxNInts.at_ 8 HETiers.out
       have y5NInts := bxNInts.at_ 10 HEErrnos.out
       have y6NInts := bxNInts.at_ 12 HEWords.out
       have y7NInts := bxNInts.at_ 14 HESteps.out
       clear bxMInts blMInts hzMInts bbNInts rowIntsMInts keptIntsMInts rgIntsMInts kgIntsMInts y0MInts y1MInts y2MInts y3MInts y4MInts y5MInts y6MInts y7MInts)
    | (go_at_call 51
       refine (markedInts_any _ nInts _ B osInts msInts _ rgIntsGInts kgIntsGInts HNInts.out HMSInts.out).mono ?_
       rintro e wMInts ⟨rfl, bbMInts⟩
       have bxMInts := bxGInts.below bbMInts
       have blMInts := blGInts.trans (bbMInts.mono hzGInts)
       have hzMInts := Nat.le_trans hzGInts bbMInts.size
       have rowIntsMInts := bk_below rowIntsGInts bbMInts
       have keptIntsMInts := keptIntsGInts.below bbMInts
       have rgIntsMInts := bk_below rgIntsGInts bbMInts
       have kgIntsMInts := kgIntsGInts.below bbMInts
       have y0MInts := bxMInts.at_ 0 HETexts.out
       have y1MInts := bxMInts.at_ 2 HEInts.out
       have y2MInts := bxMInts.at_ 4 HERecords.out
       have y3MInts := bxMInts.at_ 6 HESamples.out
       have y4MInts := bxMInts.at_ 8 HETiers.out
       have y5MInts := bxMInts.at_ 10 HEErrnos.out
       have y6MInts := bxMInts.at_ 12 HEWords.out
       have y7MInts := bxMInts.at_ 14 HESteps.out
       clear bxGInts blGInts hzGInts bbMInts rowIntsGInts keptIntsGInts rgIntsGInts kgIntsGInts y0GInts y1GInts y2GInts y3GInts y4GInts y5GInts y6GInts y7GInts)
    | (go_at_call 52; refine (markedNilRecords_any _).mono ?_; rintro e wq ⟨rfl, rfl⟩)
    | (go_at_call 53; refine (markedNilSamples_any _).mono ?_; rintro e wq ⟨rfl, rfl⟩)
    | (go_at_call 54; refine (markedNilTiers_any _).mono ?_; rintro e wq ⟨rfl, rfl⟩)
    | (go_at_call 55; refine (markedNilErrnos_any _).mono ?_; rintro e wq ⟨rfl, rfl⟩)
    | (go_at_call 56; refine (markedNilWords_any _).mono ?_; rintro e wq ⟨rfl, rfl⟩)
    | (go_at_call 57; refine (markedNilSteps_any _).mono ?_; rintro e wq ⟨rfl, rfl⟩))
  go_ret
  exact ⟨rfl, blNInts⟩
end Go.Proofs.Ytcglbbabfkbcbac
