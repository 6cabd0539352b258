/-
  sedimentbook's Apart where Ints, Records hold lists. (gen_apart.py prints this.)
-/
import Derived.Test.YtcglbbabfkbcbadGreatBookNil
import Derived.Test.YtcglbbabfkbcbadGreatBookInts
import Derived.Test.YtcglbbabfkbcbadGreatBookIntsG
import Derived.Test.YtcglbbabfkbcbadGreatBookRecords
import Derived.Test.YtcglbbabfkbcbadGreatBookRecordsG
import Derived.Deep.DeepCutAuto
namespace Go.Proofs.YtcglbbabfkbcbadGreat
open Go.RowKit Go.Deep

set_option maxRecDepth 100000 in
set_option maxHeartbeats 4000000 in
theorem apartView_any (g B : Nat) (fs : Array Value) (lsInts : List (List Int)) (lsRecords : List (List Rc)) (w : World) (hB : Bx w g 44 fs) (hInts : BkInts w B fs lsInts) (hnInts : lsInts.length ≤ 250) (hfInts : ∀ l ∈ lsInts, l.length ≤ 50000) (hRecords : BkRecords w B fs lsRecords) (hnRecords : lsRecords.length ≤ 250) (hfRecords : ∀ l ∈ lsRecords, l.length ≤ 50000) (hBw : B ≤ w.heap.size) (hz : ∀ i, i < 16 → i ≠ 2 → i ≠ 3 → i ≠ 4 → i ≠ 5 → fs[i]? = some (.slice none 0 0)) :
    Calls Tryz.prog 21 #[.pointer (some ⟨g, 0, none⟩)] w fun e w' => e = .returned (.bool true) ∧ Below B w w' := by
  have HETexts := Lib.hid (hz 0 (by decide) (by decide) (by decide) (by decide) (by decide))
  have HESamples := Lib.hid (hz 6 (by decide) (by decide) (by decide) (by decide) (by decide))
  have HETiers := Lib.hid (hz 8 (by decide) (by decide) (by decide) (by decide) (by decide))
  have HEErrnos := Lib.hid (hz 10 (by decide) (by decide) (by decide) (by decide) (by decide))
  have HEWords := Lib.hid (hz 12 (by decide) (by decide) (by decide) (by decide) (by decide))
  have HESteps := Lib.hid (hz 14 (by decide) (by decide) (by decide) (by decide) (by decide))
  clear hz
  have HHInts := Lib.hid hInts
  obtain ⟨vInts, vsInts, vWInts, wsInts, hxInts, _, rInts, _, _, kInts, _⟩ := hInts.ex
  obtain ⟨AInts, cInts, rfl, _⟩ := bk_sl rInts
  have HFInts := Lib.hid hfInts
  have HNNInts := Lib.hid (show lsInts.length ≤ 250 ∧ (marksAll mkInts 0 lsInts).length = lsInts.length from ⟨hnInts, marksAll_len _ _ _⟩)
  obtain ⟨nInts, hqInts⟩ : ∃ n, n = lsInts.length := ⟨_, rfl⟩
  rw [← hqInts] at hxInts rInts hnInts
  have HNInts := Lib.hid hnInts
  have HEInts := Lib.hid hxInts
  have HRInts := Lib.hid rInts
  have HKInts := Lib.hid kInts
  have HSTInts := Lib.hid (fun W (h : Below w.heap.size w W) => (stillInts_any g B fs lsInts W (hB.below h) (HHInts.out.below h) (HNNInts.out.1)).mono (fun e w' ⟨a, q, b⟩ => (⟨a, b ▸ below_drewN h q⟩ : e = Ending.returned (.bool true) ∧ Below w.heap.size w w')))
  have HMIInts := Lib.hid (fun (i : Nat) l (h : (marksAll mkInts 0 lsInts)[i]? = some l) => (marksAll_is mkInts h).1)
  have HMFInts := Lib.hid (marksAll_few mkInts hfInts)
  clear hfInts hnInts hxInts rInts kInts hInts hqInts
  have HHRecords := Lib.hid hRecords
  obtain ⟨vRecords, vsRecords, vWRecords, wsRecords, hxRecords, _, rRecords, _, _, kRecords, _⟩ := hRecords.ex
  obtain ⟨ARecords, cRecords, rfl, _⟩ := bk_sl rRecords
  have HFRecords := Lib.hid hfRecords
  have HNNRecords := Lib.hid (show lsRecords.length ≤ 250 ∧ (marksAll mkRecords 0 lsRecords).length = lsRecords.length from ⟨hnRecords, marksAll_len _ _ _⟩)
  obtain ⟨nRecords, hqRecords⟩ : ∃ n, n = lsRecords.length := ⟨_, rfl⟩
  rw [← hqRecords] at hxRecords rRecords hnRecords
  have HNRecords := Lib.hid hnRecords
  have HERecords := Lib.hid hxRecords
  have HRRecords := Lib.hid rRecords
  have HKRecords := Lib.hid kRecords
  have HSTRecords := Lib.hid (fun W (h : Below w.heap.size w W) => (stillRecords_any g B fs lsRecords W (hB.below h) (HHRecords.out.below h) (HNNRecords.out.1)).mono (fun e w' ⟨a, q, b⟩ => (⟨a, b ▸ below_drewN h q⟩ : e = Ending.returned (.bool true) ∧ Below w.heap.size w w')))
  have HMIRecords := Lib.hid (fun (i : Nat) l (h : (marksAll mkRecords 0 lsRecords)[i]? = some l) => (marksAll_is mkRecords h).1)
  have HMFRecords := Lib.hid (marksAll_few mkRecords hfRecords)
  clear hfRecords hnRecords hxRecords rRecords kRecords hRecords hqRecords
  have HSTTexts := Lib.hid (fun W (h : Below w.heap.size w W) => (stillNilTexts_any g fs W (hB.below h) HETexts.out).mono (fun e w' ⟨a, q, b⟩ => (⟨a, b ▸ below_drewN h q⟩ : e = Ending.returned (.bool true) ∧ Below w.heap.size w w')))
  have HPTTexts := Lib.hid (fun W (h : Bx W g 44 fs) => putNilTexts_any g fs W h HETexts.out)
  have HGRTexts := Lib.hid (fun W (h : Bx W g 44 fs) => growNilTexts_any g fs W h HETexts.out)
  have HSTSamples := Lib.hid (fun W (h : Below w.heap.size w W) => (stillNilSamples_any g fs W (hB.below h) HESamples.out).mono (fun e w' ⟨a, q, b⟩ => (⟨a, b ▸ below_drewN h q⟩ : e = Ending.returned (.bool true) ∧ Below w.heap.size w w')))
  have HPTSamples := Lib.hid (fun W (h : Bx W g 44 fs) => putNilSamples_any g fs W h HESamples.out)
  have HGRSamples := Lib.hid (fun W (h : Bx W g 44 fs) => growNilSamples_any g fs W h HESamples.out)
  have HSTTiers := Lib.hid (fun W (h : Below w.heap.size w W) => (stillNilTiers_any g fs W (hB.below h) HETiers.out).mono (fun e w' ⟨a, q, b⟩ => (⟨a, b ▸ below_drewN h q⟩ : e = Ending.returned (.bool true) ∧ Below w.heap.size w w')))
  have HPTTiers := Lib.hid (fun W (h : Bx W g 44 fs) => putNilTiers_any g fs W h HETiers.out)
  have HGRTiers := Lib.hid (fun W (h : Bx W g 44 fs) => growNilTiers_any g fs W h HETiers.out)
  have HSTErrnos := Lib.hid (fun W (h : Below w.heap.size w W) => (stillNilErrnos_any g fs W (hB.below h) HEErrnos.out).mono (fun e w' ⟨a, q, b⟩ => (⟨a, b ▸ below_drewN h q⟩ : e = Ending.returned (.bool true) ∧ Below w.heap.size w w')))
  have HPTErrnos := Lib.hid (fun W (h : Bx W g 44 fs) => putNilErrnos_any g fs W h HEErrnos.out)
  have HGRErrnos := Lib.hid (fun W (h : Bx W g 44 fs) => growNilErrnos_any g fs W h HEErrnos.out)
  have HSTWords := Lib.hid (fun W (h : Below w.heap.size w W) => (stillNilWords_any g fs W (hB.below h) HEWords.out).mono (fun e w' ⟨a, q, b⟩ => (⟨a, b ▸ below_drewN h q⟩ : e = Ending.returned (.bool true) ∧ Below w.heap.size w w')))
  have HPTWords := Lib.hid (fun W (h : Bx W g 44 fs) => putNilWords_any g fs W h HEWords.out)
  have HGRWords := Lib.hid (fun W (h : Bx W g 44 fs) => growNilWords_any g fs W h HEWords.out)
  have HSTSteps := Lib.hid (fun W (h : Below w.heap.size w W) => (stillNilSteps_any g fs W (hB.below h) HESteps.out).mono (fun e w' ⟨a, q, b⟩ => (⟨a, b ▸ below_drewN h q⟩ : e = Ending.returned (.bool true) ∧ Below w.heap.size w w')))
  have HPTSteps := Lib.hid (fun W (h : Bx W g 44 fs) => putNilSteps_any g fs W h HESteps.out)
  have HGRSteps := Lib.hid (fun W (h : Bx W g 44 fs) => growNilSteps_any g fs W h HESteps.out)
  have HBX := Lib.hid hB
  have HBW := Lib.hid hBw
  have hs0 := Below.refl w.heap.size w
  clear hB hBw
  go_enter Tryz.func21, Tryz.ntmps21
  go_upto_region 17 with (first
    | (go_at_call 41; refine (HSTTexts.out _ (by assumption)).mono ?_; rintro e sTexts ⟨rfl, hsTexts⟩)
    | (go_at_call 42; refine (HSTInts.out _ (by assumption)).mono ?_; rintro e sInts ⟨rfl, hsInts⟩)
    | (go_at_call 43; refine (HSTRecords.out _ (by assumption)).mono ?_; rintro e sRecords ⟨rfl, hsRecords⟩)
    | (go_at_call 44; refine (HSTSamples.out _ (by assumption)).mono ?_; rintro e sSamples ⟨rfl, hsSamples⟩)
    | (go_at_call 45; refine (HSTTiers.out _ (by assumption)).mono ?_; rintro e sTiers ⟨rfl, hsTiers⟩)
    | (go_at_call 46; refine (HSTErrnos.out _ (by assumption)).mono ?_; rintro e sErrnos ⟨rfl, hsErrnos⟩)
    | (go_at_call 47; refine (HSTWords.out _ (by assumption)).mono ?_; rintro e sWords ⟨rfl, hsWords⟩)
    | (go_at_call 48; refine (HSTSteps.out _ (by assumption)).mono ?_; rintro e sSteps ⟨rfl, hsSteps⟩))
  have bx0 := HBX.out.below hsSteps
  have bl0 : Below B w sSteps := hsSteps.mono HBW.out
  have rowInts0 := bk_below HRInts.out hsSteps
  have keptInts0 := HKInts.out.below hsSteps
  have rowRecords0 := bk_below HRRecords.out hsSteps
  have keptRecords0 := HKRecords.out.below hsSteps
  have hz0 : B ≤ sSteps.heap.size := Nat.le_trans HBW.out hsSteps.size
  clear hsTexts hsInts hsRecords hsSamples hsTiers hsErrnos hsWords hsSteps hs0
  go_upto_region 25 with (first
    | (go_at_call 49; refine (HPTSteps.out _ (by assumption)).mono ?_; rintro e wq ⟨rfl, rfl⟩)
    | (go_at_call 50; refine (HPTTexts.out _ (by assumption)).mono ?_; rintro e wq ⟨rfl, rfl⟩)
    | (go_at_call 51
       refine (putInts_any g B fs _ nInts vsInts lsInts _ bx0 HEInts.out rowInts0 keptInts0 HNInts.out).mono ?_
       rintro e wPInts ⟨rfl, spPInts, keptIntsPInts⟩
       have bxPInts := spPInts.bx bx0 (by decide)
       have blPInts := spPInts.below bl0 (Nat.le_refl _) hz0
       have hzPInts := Nat.le_trans hz0 spPInts.size
       have rowIntsPInts := spPInts.own rowInts0 (by decide)
       have rowRecordsPInts := spPInts.own rowRecords0 (by decide)
       have keptRecordsPInts := keptRecords0.spared spPInts (by decide)
       clear bx0 bl0 hz0 spPInts rowInts0 keptInts0 rowRecords0 keptRecords0)
    | (go_at_call 52
       refine (putRecords_any g B fs _ nRecords vsRecords lsRecords _ bxPInts HERecords.out rowRecordsPInts keptRecordsPInts HNRecords.out).mono ?_
       rintro e wPRecords ⟨rfl, spPRecords, keptRecordsPRecords⟩
       have bxPRecords := spPRecords.bx bxPInts (by decide)
       have blPRecords := spPRecords.below blPInts (Nat.le_refl _) hzPInts
       have hzPRecords := Nat.le_trans hzPInts spPRecords.size
       have rowIntsPRecords := spPRecords.own rowIntsPInts (by decide)
       have keptIntsPRecords := keptIntsPInts.spared spPRecords (by decide)
       have rowRecordsPRecords := spPRecords.own rowRecordsPInts (by decide)
       clear bxPInts blPInts hzPInts spPRecords rowIntsPInts keptIntsPInts rowRecordsPInts keptRecordsPInts)
    | (go_at_call 53; refine (HPTSamples.out _ (by assumption)).mono ?_; rintro e wq ⟨rfl, rfl⟩)
    | (go_at_call 54; refine (HPTTiers.out _ (by assumption)).mono ?_; rintro e wq ⟨rfl, rfl⟩)
    | (go_at_call 55; refine (HPTErrnos.out _ (by assumption)).mono ?_; rintro e wq ⟨rfl, rfl⟩)
    | (go_at_call 56; refine (HPTWords.out _ (by assumption)).mono ?_; rintro e wq ⟨rfl, rfl⟩))
  go_wp2_with (first
    | (go_at_call 57; refine (HGRTexts.out _ (by assumption)).mono ?_; rintro e wq ⟨rfl, rfl⟩)
    | (go_at_call 58
       refine (growInts_any g B fs _ nInts vsInts (marksAll mkInts 0 lsInts) _ bxPRecords HEInts.out rowIntsPRecords keptIntsPRecords HNInts.out HMIInts.out HMFInts.out hzPRecords).mono ?_
       rintro e wGInts ⟨vgInts, osInts, msInts, rfl, rgIntsGInts, kgIntsGInts, hmsInts, spGInts, keptIntsGInts⟩
       obtain ⟨AgInts, cgInts, rfl, _⟩ := bk_sl rgIntsGInts
       have HMSInts := Lib.hid hmsInts
       have bxGInts := spGInts.bx bxPRecords (by decide)
       have blGInts := spGInts.below blPRecords (Nat.le_refl _) hzPRecords
       have hzGInts := Nat.le_trans hzPRecords spGInts.size
       have rowIntsGInts := spGInts.own rowIntsPRecords (by decide)
       have rowRecordsGInts := spGInts.own rowRecordsPRecords (by decide)
       have keptRecordsGInts := keptRecordsPRecords.spared spGInts (by decide)
       clear hmsInts bxPRecords blPRecords hzPRecords spGInts rowIntsPRecords keptIntsPRecords rowRecordsPRecords keptRecordsPRecords)
    | (go_at_call 59
       refine (growRecords_any g B fs _ nRecords vsRecords (marksAll mkRecords 0 lsRecords) _ bxGInts HERecords.out rowRecordsGInts keptRecordsGInts HNRecords.out HMIRecords.out HMFRecords.out hzGInts).mono ?_
       rintro e wGRecords ⟨vgRecords, osRecords, msRecords, rfl, rgRecordsGRecords, kgRecordsGRecords, hmsRecords, spGRecords, keptRecordsGRecords⟩
       obtain ⟨AgRecords, cgRecords, rfl, _⟩ := bk_sl rgRecordsGRecords
       have HMSRecords := Lib.hid hmsRecords
       have bxGRecords := spGRecords.bx bxGInts (by decide)
       have blGRecords := spGRecords.below blGInts (Nat.le_refl _) hzGInts
       have hzGRecords := Nat.le_trans hzGInts spGRecords.size
       have rowIntsGRecords := spGRecords.own rowIntsGInts (by decide)
       have keptIntsGRecords := keptIntsGInts.spared spGRecords (by decide)
       have rowRecordsGRecords := spGRecords.own rowRecordsGInts (by decide)
       have rgIntsGRecords := spGRecords.own rgIntsGInts (by decide)
       have kgIntsGRecords := kgIntsGInts.spared spGRecords (by decide)
       clear hmsRecords bxGInts blGInts hzGInts spGRecords rowIntsGInts keptIntsGInts rowRecordsGInts keptRecordsGInts rgIntsGInts kgIntsGInts
       have y0GRecords := bxGRecords.at_ 0 HETexts.out
       have y1GRecords := bxGRecords.at_ 2 HEInts.out
       have y2GRecords := bxGRecords.at_ 4 HERecords.out
       have y3GRecords := bxGRecords.at_ 6 HESamples.out
       have y4GRecords := bxGRecords.at_ 8 HETiers.out
       have y5GRecords := bxGRecords.at_ 10 HEErrnos.out
       have y6GRecords := bxGRecords.at_ 12 HEWords.out
       have y7GRecords := bxGRecords.at_ 14 HESteps.out)
    | (go_at_call 60; refine (HGRSamples.out _ (by assumption)).mono ?_; rintro e wq ⟨rfl, rfl⟩)
    | (go_at_call 61; refine (HGRTiers.out _ (by assumption)).mono ?_; rintro e wq ⟨rfl, rfl⟩)
    | (go_at_call 62; refine (HGRErrnos.out _ (by assumption)).mono ?_; rintro e wq ⟨rfl, rfl⟩)
    | (go_at_call 63; refine (HGRWords.out _ (by assumption)).mono ?_; rintro e wq ⟨rfl, rfl⟩)
    | (go_at_call 64; refine (HGRSteps.out _ (by assumption)).mono ?_; rintro e wq ⟨rfl, rfl⟩)
    | (go_at_call 65; refine (markedNilTexts_any _).mono ?_; rintro e wq ⟨rfl, rfl⟩)
    | (go_at_call 66
       refine (markedInts_any _ nInts _ B vsInts (marksAll mkInts 0 lsInts) _ rowIntsMInts keptIntsMInts HNInts.out HMIInts.out).mono ?_
       rintro e wNInts ⟨rfl, bbNInts⟩
       have bxNInts := bxMInts.below bbNInts
       have blNInts := blMInts.trans (bbNInts.mono hzMInts)
       have hzNInts := Nat.le_trans hzMInts bbNInts.size
       have rowIntsNInts := bk_below rowIntsMInts bbNInts
       have keptIntsNInts := keptIntsMInts.below bbNInts
       have rgIntsNInts := bk_below rgIntsMInts bbNInts
       have kgIntsNInts := kgIntsMInts.below bbNInts
       have rowRecordsNInts := bk_below rowRecordsMInts bbNInts
       have keptRecordsNInts := keptRecordsMInts.below bbNInts
       have rgRecordsNInts := bk_below rgRecordsMInts bbNInts
       have kgRecordsNInts := kgRecordsMInts.below bbNInts
       have y0NInts := bxNInts.at_ 0 HETexts.out
       have y1NInts := bxNInts.at_ 2 HEInts.out
       have y2NInts := bxNInts.at_ 4 HERecords.out
       have y3NInts := bxNInts.at_ 6 HESamples.out
       have y4NInts := bxNInts.at_ 8 HETiers.out
       have y5NInts := bxNInts.at_ 10 HEErrnos.out
       have y6NInts := bxNInts.at_ 12 HEWords.out
       have y7NInts := bxNInts.at_ 14 HESteps.out
       clear bxMInts blMInts hzMInts bbNInts rowIntsMInts keptIntsMInts rgIntsMInts kgIntsMInts rowRecordsMInts keptRecordsMInts rgRecordsMInts kgRecordsMInts y0MInts y1MInts y2MInts y3MInts y4MInts y5MInts y6MInts y7MInts)
    | (go_at_call 66
       refine (markedInts_any _ nInts _ B osInts msInts _ rgIntsGRecords kgIntsGRecords HNInts.out HMSInts.out).mono ?_
       rintro e wMInts ⟨rfl, bbMInts⟩
       have bxMInts := bxGRecords.below bbMInts
       have blMInts := blGRecords.trans (bbMInts.mono hzGRecords)
       have hzMInts := Nat.le_trans hzGRecords bbMInts.size
       have rowIntsMInts := bk_below rowIntsGRecords bbMInts
       have keptIntsMInts := keptIntsGRecords.below bbMInts
       have rgIntsMInts := bk_below rgIntsGRecords bbMInts
       have kgIntsMInts := kgIntsGRecords.below bbMInts
       have rowRecordsMInts := bk_below rowRecordsGRecords bbMInts
       have keptRecordsMInts := keptRecordsGRecords.below bbMInts
       have rgRecordsMInts := bk_below rgRecordsGRecords bbMInts
       have kgRecordsMInts := kgRecordsGRecords.below bbMInts
       have y0MInts := bxMInts.at_ 0 HETexts.out
       have y1MInts := bxMInts.at_ 2 HEInts.out
       have y2MInts := bxMInts.at_ 4 HERecords.out
       have y3MInts := bxMInts.at_ 6 HESamples.out
       have y4MInts := bxMInts.at_ 8 HETiers.out
       have y5MInts := bxMInts.at_ 10 HEErrnos.out
       have y6MInts := bxMInts.at_ 12 HEWords.out
       have y7MInts := bxMInts.at_ 14 HESteps.out
       clear bxGRecords blGRecords hzGRecords bbMInts rowIntsGRecords keptIntsGRecords rgIntsGRecords kgIntsGRecords rowRecordsGRecords keptRecordsGRecords rgRecordsGRecords kgRecordsGRecords y0GRecords y1GRecords y2GRecords y3GRecords y4GRecords y5GRecords y6GRecords y7GRecords)
    | (go_at_call 67
       refine (markedRecords_any _ nRecords _ B vsRecords (marksAll mkRecords 0 lsRecords) _ rowRecordsMRecords keptRecordsMRecords HNRecords.out HMIRecords.out).mono ?_
       rintro e wNRecords ⟨rfl, bbNRecords⟩
       have bxNRecords := bxMRecords.below bbNRecords
       have blNRecords := blMRecords.trans (bbNRecords.mono hzMRecords)
       have hzNRecords := Nat.le_trans hzMRecords bbNRecords.size
       have rowIntsNRecords := bk_below rowIntsMRecords bbNRecords
       have keptIntsNRecords := keptIntsMRecords.below bbNRecords
       have rgIntsNRecords := bk_below rgIntsMRecords bbNRecords
       have kgIntsNRecords := kgIntsMRecords.below bbNRecords
       have rowRecordsNRecords := bk_below rowRecordsMRecords bbNRecords
       have keptRecordsNRecords := keptRecordsMRecords.below bbNRecords
       have rgRecordsNRecords := bk_below rgRecordsMRecords bbNRecords
       have kgRecordsNRecords := kgRecordsMRecords.below bbNRecords
       have y0NRecords := bxNRecords.at_ 0 HETexts.out
       have y1NRecords := bxNRecords.at_ 2 HEInts.out
       have y2NRecords := bxNRecords.at_ 4 HERecords.out
       have y3NRecords := bxNRecords.at_ 6 HESamples.out
       have y4NRecords := bxNRecords.at_ 8 HETiers.out
       have y5NRecords := bxNRecords.at_ 10 HEErrnos.out
       have y6NRecords := bxNRecords.at_ 12 HEWords.out
       have y7NRecords := bxNRecords.at_ 14 HESteps.out
       clear bxMRecords blMRecords hzMRecords bbNRecords rowIntsMRecords keptIntsMRecords rgIntsMRecords kgIntsMRecords rowRecordsMRecords keptRecordsMRecords rgRecordsMRecords kgRecordsMRecords y0MRecords y1MRecords y2MRecords y3MRecords y4MRecords y5MRecords y6MRecords y7MRecords)
    | (go_at_call 67
       refine (markedRecords_any _ nRecords _ B osRecords msRecords _ rgRecordsNInts kgRecordsNInts HNRecords.out HMSRecords.out).mono ?_
       rintro e wMRecords ⟨rfl, bbMRecords⟩
       have bxMRecords := bxNInts.below bbMRecords
       have blMRecords := blNInts.trans (bbMRecords.mono hzNInts)
       have hzMRecords := Nat.le_trans hzNInts bbMRecords.size
       have rowIntsMRecords := bk_below rowIntsNInts bbMRecords
       have keptIntsMRecords := keptIntsNInts.below bbMRecords
       have rgIntsMRecords := bk_below rgIntsNInts bbMRecords
       have kgIntsMRecords := kgIntsNInts.below bbMRecords
       have rowRecordsMRecords := bk_below rowRecordsNInts bbMRecords
       have keptRecordsMRecords := keptRecordsNInts.below bbMRecords
       have rgRecordsMRecords := bk_below rgRecordsNInts bbMRecords
       have kgRecordsMRecords := kgRecordsNInts.below bbMRecords
       have y0MRecords := bxMRecords.at_ 0 HETexts.out
       have y1MRecords := bxMRecords.at_ 2 HEInts.out
       have y2MRecords := bxMRecords.at_ 4 HERecords.out
       have y3MRecords := bxMRecords.at_ 6 HESamples.out
       have y4MRecords := bxMRecords.at_ 8 HETiers.out
       have y5MRecords := bxMRecords.at_ 10 HEErrnos.out
       have y6MRecords := bxMRecords.at_ 12 HEWords.out
       have y7MRecords := bxMRecords.at_ 14 HESteps.out
       clear bxNInts blNInts hzNInts bbMRecords rowIntsNInts keptIntsNInts rgIntsNInts kgIntsNInts rowRecordsNInts keptRecordsNInts rgRecordsNInts kgRecordsNInts y0NInts y1NInts y2NInts y3NInts y4NInts y5NInts y6NInts y7NInts)
    | (go_at_call 68; refine (markedNilSamples_any _).mono ?_; rintro e wq ⟨rfl, rfl⟩)
    | (go_at_call 69; refine (markedNilTiers_any _).mono ?_; rintro e wq ⟨rfl, rfl⟩)
    | (go_at_call 70; refine (markedNilErrnos_any _).mono ?_; rintro e wq ⟨rfl, rfl⟩)
    | (go_at_call 71; refine (markedNilWords_any _).mono ?_; rintro e wq ⟨rfl, rfl⟩)
    | (go_at_call 72; refine (markedNilSteps_any _).mono ?_; rintro e wq ⟨rfl, rfl⟩))
  go_ret
  exact ⟨rfl, blNRecords⟩
end Go.Proofs.YtcglbbabfkbcbadGreat
