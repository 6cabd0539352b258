/-
  Several texts in one: StoX, StoY, StoreNone, StoreNoneFit, StoreNoneFitB.
-/
import Derived.Test.YtalkkhafcfhglaaGreatDoorRows
import Derived.JoinedCond
import Derived.Test.YtalkkhafcfhglaaGreatDoorQ44
set_option maxRecDepth 100000
set_option maxHeartbeats 4000000
namespace Go.Proofs.YtalkkhafcfhglaaGreatDoor
open Go.RowKit
set_option linter.unusedSimpArgs false in
theorem Jur (v : Value) (w : World) (h : Jig w v) : Calls Tryz.prog 19 #[v] w fun e w' => e = .returned (.bool false) /\ Below w.heap.size w w' := by
 have HN := zI (Jf1 v w h);have HB := zI (Below.refl w.heap.size w);clear h;go_enter Tryz.func19, Tryz.ntmps19;go_wp2_with fail
 refine HN.out.mono ?_;rintro e w1 ⟨rfl, hw⟩;subst hw;go_wp2_with fail
 go_ret;exact ⟨rfl, HB.out⟩
set_option linter.unusedSimpArgs false in
theorem Js6 (v : Value) (s : Option Addr) (w : World) (h : Jig w v) : Calls Tryz.prog 14 #[v, .pointer s] w fun e w' => e = .returned (.int .i64 1) /\ Below w.heap.size w w' := by
 have hd : Jig w.drew v := h.imp (fun e => e) (fun ⟨g, e, hx⟩ => ⟨g, e, hx.drew⟩);have HN := zI (Jf1 v w.drew hd);have HB := zI ((Below.refl w.heap.size w).drew);clear h hd;go_enter Tryz.func14, Tryz.ntmps14;go_upto_region 1 with fail
 first
 | (go_region_with (first
     | (go_at_call 40
        refine HN.out.mono ?_;rintro e w1 ⟨rfl, hw⟩;subst hw)))
 | fail
 all_goals
  go_wp2_with fail
  go_ret;exact ⟨rfl, HB.out⟩
theorem Jig.keep {w w' : World} {v : Value} (h : Jig w v) (hb : Below w.heap.size w w') : Jig w' v := by
 rcases h with h | ⟨g, h, hx⟩
 · exact .inl h
 · exact .inr ⟨g, h, hx.below hb⟩
set_option linter.unusedSimpArgs false in
theorem Jkk (who : ByteArray) (w : World) (_ : who.size <= maxLen) (hG : Glo w) :
  Calls Tryz.prog 4 #[.string who] w fun e w' => e = .returned (.bool true) /\ Below w.heap.size w w' := by
 have HAL := zI (fun W (hW : Below w.heap.size w W) => (Js4 W (hG.below hW)).mono (fun e w' (hh : e = .returned (.bool true) /\ Below W.heap.size W w') => (show e = .returned (.bool true) /\ Below W.heap.size W w' /\ Below w.heap.size w w' from ⟨hh.1, hh.2, hW.trans (hh.2.mono hW.size)⟩)));by_cases h60 : 60 < who.size
 · have d1 : decide ((60 : Int) < (who.size : Int)) = true := decide_eq_true (by omega)
   have HA := zI (HAL.out w (Below.refl _ _));clear HAL hG;go_enter Tryz.func4, Tryz.ntmps4;go_wp2_with fail
   refine HA.out.mono ?_;rintro e w1 ⟨rfl, _, hb1⟩;have HB1 := zI hb1;clear hb1;go_wp2_with fail
   go_ret;exact ⟨rfl, HB1.out⟩
 · have d1 : decide ((60 : Int) < (who.size : Int)) = false := decide_eq_false (by omega)
   have d2 : ¬ 60 < who.size := h60;obtain ⟨gz, hgz⟩ : ∃ gz, gz = w.heap.size := ⟨_, rfl⟩;obtain ⟨w1, hw1⟩ : ∃ w1, w1 = w.alloc (.cells stoZ 48) := ⟨_, rfl⟩;have hx1 : Bx w1 gz 48 stoZ := by rw [hw1, hgz]; exact Bx.new _ _ _
   have hb1 : Below w.heap.size w w1 := by rw [hw1]; exact (Below.refl _ _).alloc (Nat.le_refl _) _
   have HX1 := zI hx1;have HB1 := zI hb1;have HW1 := zI hw1;have HGZ := zI hgz;have HSN := zI (Jip 5 Py.webB Py.webNm Py.webTs w1 (by omega) (by decide) Py.web_read (hG.below hb1).m);clear hx1 hb1 hw1 hgz hG;go_enter Tryz.func4, Tryz.ntmps4;go_upto_region 5 with fail
   have e1 : w.alloc (.cells stoZ 48) = w1 := HW1.out.symm;unfold stoZ at e1;rw [e1, <- HGZ.out];clear e1;go_wp2_with fail
   refine HSN.out.mono ?_;rintro e w2 ⟨gs, rfl, _, hb2⟩;have HB2 := zI (HB1.out.trans (hb2.mono HB1.out.size));have hz2 : Jig w2 (.pointer (some ⟨gz, 0, none⟩)) := .inr ⟨gz, rfl, HX1.out.below hb2⟩;have HZ2 := zI hz2;clear hb2 hz2;have HA2 := zI (HAL.out w2 HB2.out);clear HAL;go_wp2_with fail
   refine HA2.out.mono ?_;rintro e w3 ⟨rfl, hb3, hb3'⟩;have HB3 := zI hb3';have HZ3 := zI (HZ2.out.keep hb3);have HS3 := zI (Js6 (.pointer none) (some ⟨gs, 0, none⟩) w3 (.inl rfl));clear hb3 hb3';go_wp2_with fail
   refine HS3.out.mono ?_;rintro e w4 ⟨rfl, hb4⟩;have HB4 := zI (HB3.out.trans (hb4.mono HB3.out.size));have hz4 := HZ3.out.keep hb4;have HZ4 := zI hz4;have HS4 := zI (Js6 (.pointer (some ⟨gz, 0, none⟩)) (some ⟨gs, 0, none⟩) w4 hz4);clear hb4 hz4;go_wp2_with fail
   refine HS4.out.mono ?_;rintro e w5 ⟨rfl, hb5⟩;have HB5 := zI (HB4.out.trans (hb5.mono HB4.out.size));have hz5 := HZ4.out.keep hb5;have HL0 := zI (Jy0 (.pointer none) w5 (.inl rfl));have HL1 := zI (Jy0 (.pointer (some ⟨gz, 0, none⟩)) w5 hz5);have HG0 := zI (Jyz (.pointer none) w5 (.inl rfl));have HG1 := zI (Jyz (.pointer (some ⟨gz, 0, none⟩)) w5 hz5);have HU0 := zI (Js5 (.pointer none) w5 (.inl rfl));have HU1 := zI (Js5 (.pointer (some ⟨gz, 0, none⟩)) w5 hz5);have HH0 := zI (Jpp (.pointer none) who w5 (.inl rfl));have HH1 := zI (Jpp (.pointer (some ⟨gz, 0, none⟩)) who w5 hz5);have HBR := zI (Jur (.pointer none) w5 (.inl rfl));clear hb5 hz5;go_wp2_with fail
   refine HL0.out.mono ?_;rintro e w6 ⟨rfl, hw⟩;subst hw;go_wp2_with fail
   refine HL1.out.mono ?_;rintro e w6 ⟨rfl, hw⟩;subst hw;go_wp2_with fail
   refine HG0.out.mono ?_;rintro e w6 ⟨rfl, hw⟩;subst hw;go_wp2_with fail
   refine HG1.out.mono ?_;rintro e w6 ⟨rfl, hw⟩;subst hw;go_wp2_with fail
   refine HU0.out.mono ?_;rintro e w6 ⟨rfl, hw⟩;subst hw;go_wp2_with fail
   refine HU1.out.mono ?_;rintro e w6 ⟨rfl, hw⟩;subst hw;go_wp2_with fail
   refine HH0.out.mono ?_;rintro e w6 ⟨rfl, hw⟩;subst hw;go_wp2_with fail
   refine HH1.out.mono ?_;rintro e w6 ⟨rfl, hw⟩;subst hw;go_wp2_with fail
   refine HBR.out.mono ?_;rintro e w6 ⟨rfl, hb6⟩;have HB6 := zI (HB5.out.trans (hb6.mono HB5.out.size));clear hb6;go_wp2_with fail
   go_ret;exact ⟨rfl, HB6.out⟩
end Go.Proofs.YtalkkhafcfhglaaGreatDoor
namespace Go.Proofs.YtalkkhafcfhglaaGreatDoor.storeNone
open Go.ChangeShapes Go.WideShapes Go.ChangeAt
theorem k1 : (Rows.storeNoneRow.wf (OpenSpec.ofChange (OpenSpec.ofChange Rows.storeNoneSpec).bare)) = true := by kernel_rfl
theorem k2 : (laidOutB Tryz.pinned.checked.prog) = true := by kernel_rfl
theorem k3 : (mapsRowed Tryz.pinned.checked.prog) = true := by kernel_rfl
theorem k4 : (Tryz.f4.params.all (Tryz.pinned.checked.prog.readableRec ·)) = true := by kernel_rfl
theorem k5 : (namedTie Tryz.pinned.checked.prog Rows.storeNoneRow.named (OpenSpec.ofChange Rows.storeNoneSpec).bare.vars) = true := by kernel_rfl
theorem k6 : (Rows.storeNoneRow.stops == []) = true := by kernel_rfl
theorem k7 : (Tryz.pinned.checked.prog.stops == []) = true := by kernel_rfl
theorem k8 : (Rows.storeNoneRow.knobs == []) = true := by kernel_rfl
theorem k9 : (Tryz.pinned.checked.prog.stopKnobs == []) = true := by kernel_rfl
theorem k10 : (Rows.storeNoneRow.inPlace == Tryz.pinned.checked.prog.inPlace 4) = true := by kernel_rfl
theorem k11 : (Rows.storeNoneRow.unfollowed == Tryz.pinned.checked.prog.unfollowed 4) = true := by kernel_rfl
theorem k12 : (Rows.storeNoneRow.recurses == Tryz.pinned.checked.prog.recurses 4) = true := by kernel_rfl
theorem k13 : (Rows.storeNoneRow.named == Tryz.pinned.checked.prog.varsNamed 4) = true := by kernel_rfl
theorem k14 : (Rows.storeNoneRow.maps == (Tryz.f4.params.toList ++ (OpenSpec.ofChange Rows.storeNoneSpec).bare.plain.varTypes Tryz.pinned.checked.prog).any (Tryz.pinned.checked.prog.mapsRec ·)) = true := by kernel_rfl
theorem k15 : (Rows.storeNoneRow.ifaces == (Tryz.f4.params.toList ++ (OpenSpec.ofChange Rows.storeNoneSpec).bare.plain.varTypes Tryz.pinned.checked.prog).any (Tryz.pinned.checked.prog.ifacesRec ·)) = true := by kernel_rfl
theorem k16 : (Rows.storeNoneRow.mapsOut == Tryz.pinned.checked.prog.mapsAmong Tryz.f4.resultTypes.toList) = true := by kernel_rfl
theorem k17 : (Rows.storeNoneRow.loops == (Tryz.f4.params.toList ++ (OpenSpec.ofChange Rows.storeNoneSpec).bare.plain.varTypes Tryz.pinned.checked.prog).any (Tryz.pinned.checked.prog.loopsFrom ·)) = true := by kernel_rfl
theorem k18 : (Rows.storeNoneRow.wideKeys == (Tryz.f4.params.toList ++ (OpenSpec.ofChange Rows.storeNoneSpec).bare.plain.varTypes Tryz.pinned.checked.prog ++ Tryz.f4.resultTypes.toList).any (Tryz.pinned.checked.prog.wideKeysFrom ·)) = true := by kernel_rfl
theorem k19 : ((OpenSpec.ofChange Rows.storeNoneSpec).bare.vars.all (Tryz.pinned.checked.prog.varReadable ·)) = true := by kernel_rfl
theorem k20 : (Tryz.f4.resultTypes.all (fun t => Tryz.pinned.checked.prog.readableRec t && decide (t < Tryz.pinned.checked.prog.types.size))) = true := by kernel_rfl
theorem k21 : (Rows.storeNoneRow.ifacesOut == Tryz.f4.resultTypes.toList.any (Tryz.pinned.checked.prog.ifacesRec ·)) = true := by kernel_rfl
theorem k22 : (Rows.storeNoneRow.loopsOut == Tryz.f4.resultTypes.toList.any (Tryz.pinned.checked.prog.loopsFrom ·)) = true := by kernel_rfl
theorem k23 : (Rows.storeNoneRow.plainKeys == Tryz.pinned.checked.prog.plainKeys) = true := by kernel_rfl
theorem k24 : (Rows.storeNoneRow.shortTexts.isNone) = true := by kernel_rfl
theorem k25 : (Tryz.pinned.checked.prog.stopsHeard) = true := by kernel_rfl
theorem k26 : (Tryz.pinned.checked.prog.mayEnter) = true := by kernel_rfl
theorem k27 : (Rows.storeNoneRow.lifted == Tryz.pinned.checked.prog.liftsFinal) = true := by kernel_rfl
theorem k28 : (Tryz.pinned.checked.prog.make == some Rows.storeNoneRow.make) = true := by kernel_rfl
theorem k29 : (Rows.storeNoneRow.kinds == (if Rows.storeNoneRow.domain.isEmpty then [] else Tryz.f4.params.toList.map fun t => match Tryz.pinned.checked.prog.underlying t with | some (.int k) => some k | _ => none)) = true := by kernel_rfl
theorem k30 : (Rows.storeNoneRow.pinned == Rows.storeNoneRow.pinnedBy) = true := by kernel_rfl
theorem k31 : (Rows.storeNoneRow.veiled == (Tryz.f4.params.toList ++ (OpenSpec.ofChange Rows.storeNoneSpec).bare.plain.varTypes Tryz.pinned.checked.prog ++ Tryz.f4.resultTypes.toList).any (Tryz.pinned.checked.prog.veiledRec ·)) = true := by kernel_rfl
theorem k32 : (Rows.storeNoneRow.veiledFits Tryz.pinned.checked.prog Tryz.f4.params.toList (Tryz.f4.params.toList ++ (OpenSpec.ofChange Rows.storeNoneSpec).bare.plain.varTypes Tryz.pinned.checked.prog ++ Tryz.f4.resultTypes.toList)) = true := by kernel_rfl
theorem bAnd {a b : Bool} (h : a = true) (k : b = true) : (a && b) = true := by rw [h, k]; rfl
end Go.Proofs.YtalkkhafcfhglaaGreatDoor.storeNone
namespace Go.Proofs.YtalkkhafcfhglaaGreatDoor.storeNone
theorem closed : joinedFacts Tryz.pinned.checked.prog 4 Tryz.f4 (OpenSpec.ofChange Rows.storeNoneSpec).bare Rows.storeNoneRow = true := by
 unfold joinedFacts;exact bAnd (bAnd (bAnd (bAnd (bAnd (bAnd (bAnd (bAnd (bAnd (bAnd (bAnd (bAnd (bAnd (bAnd (bAnd (bAnd (bAnd (bAnd (bAnd (bAnd (bAnd (bAnd (bAnd (bAnd (bAnd (bAnd (bAnd (bAnd (bAnd (bAnd (bAnd k1 k2) k3) k4) k5) k6) k7) k8) k9) k10) k11) k12) k13) k14) k15) k16) k17) k18) k19) k20) k21) k22) k23) k24) k25) k26) k27) k28) k29) k30) k31) k32
end Go.Proofs.YtalkkhafcfhglaaGreatDoor.storeNone
