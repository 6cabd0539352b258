/-
  sedimentbook at Records: grow. (gen_book.py prints this.)
-/
import Derived.Test.YtcglbbabfkbcbadGreatBookRecords
namespace Go.Proofs.YtcglbbabfkbcbadGreat
open Go.RowKit Go.Deep

set_option maxRecDepth 100000 in
set_option maxHeartbeats 8000000 in
theorem growRecords_any (g B : Nat) (fs : Array Value) (vX : Value) (n : Nat) (vs : List Value) (ls : List (List Rc)) (w : World) (hB : Bx w g 44 fs) (e1 : fs[4]? = some vX) (r : w.ownsRow B 49 1 vX n vs) (K : Kept Rc.cells 61 7 w B vs ls) (hn : n ≤ 250) (hm : ∀ i l, ls[i]? = some l → l = marks mkRecords i 0 l.length) (hf : ∀ l ∈ ls, l.length ≤ 50000) (hBw : B ≤ w.heap.size) :
    Calls Tryz.prog 59 #[.pointer (some ⟨g, 0, none⟩)] w fun e w' => ∃ v os ms, e = .returned v ∧ w'.ownsRow w.heap.size 49 1 v n os ∧ Kept Rc.cells 61 7 w' B os ms ∧ (∀ i l, ms[i]? = some l → l = marks mkRecords i 0 l.length) ∧ Spares B 61 w w' ∧ Kept Rc.cells 61 7 w' B vs ls := by
  obtain ⟨A, c, rfl, _⟩ := bk_sl r
  have hvl : vs.length = n := by have := r.1; omega
  obtain ⟨i0, hi0, hz0, hz1, hz2⟩ := info_parts info_rec
  have HI := Lib.hid hi0
  have HI0 := Lib.hid hz0
  have HI1 := Lib.hid hz1
  have HI2 := Lib.hid hz2
  clear hi0 hz0 hz1 hz2
  obtain ⟨i1, hi1, hy0, hy1, hy2⟩ := info_parts infoLRecords
  have HJ := Lib.hid hi1
  have HJ0 := Lib.hid hy0
  have HJ1 := Lib.hid hy1
  have HJ2 := Lib.hid hy2
  clear hi1 hy0 hy1 hy2
  have x0 := hB.at_ 4 e1
  have HMS := Lib.hid hm
  have HFW := Lib.hid hf
  clear hm hf
  go_enter Tryz.func59, Tryz.ntmps59
  go_wp2
  obtain ⟨w6, hw6⟩ : ∃ w6, w6 = w := ⟨_, rfl⟩
  subst hw6
  have HX := Lib.hid (And.intro hB (And.intro r K))
  go_loopw [3, 4, 5, 6] (fun vo i _ _ wr => ∃ (j : Nat) (os : List Value) (ms : List (List Rc)), j ≤ n ∧ i = .int .i64 j ∧ wr.ownsRow w6.heap.size 49 1 vo j os ∧ Kept Rc.cells 61 7 wr B os ms ∧ (∀ i l, ms[i]? = some l → l = marks mkRecords i 0 l.length) ∧ (∀ (i : Nat) (x v : Value), os[i]? = some x → vs[i]? = some v → Lies w6.heap.size v x) ∧ Spares B 61 w6 wr ∧ Kept Rc.cells 61 7 wr B vs ls) (fun _ i _ _ _ => n - (intOf i).toNat)
  case atStart => exact ⟨0, [], [], Nat.zero_le _, rfl, World.ownsRow_nil _ _ _ _, Kept.nil _ _, by simp, by simp, Spares.refl _ _ _, K⟩
  case round =>
    clear K r hB
    obtain ⟨j, os, ms, hj, rfl, hout, hKO, hms, hloc, hsp, hKV⟩ := hrel
    obtain ⟨w9, hw9⟩ : ∃ w9, w9 = wr := ⟨_, rfl⟩
    subst hw9
    have bx := hsp.bx HX.out.1 (by decide)
    have x0 := bx.at_ 4 e1
    have rr := hsp.own HX.out.2.1 (by decide)
    have hosl : os.length = j := by have := hout.1; omega
    have HOL := Lib.hid hosl
    clear hosl
    by_cases hlt : j < n
    · obtain ⟨b1, l, A3, c3, rfl, hb1, hl1, y1, hv1, _, _⟩ := bk_get rr hKV hlt
      obtain ⟨m, hm⟩ : ∃ m, m = l.length := ⟨_, rfl⟩
      have hlm := HMS.out j l hl1
      have hfew := HFW.out l (List.mem_of_getElem? hl1)
      have ho := hKV.own j _ _ hv1 hl1
      rw [← hm] at y1 hv1 hfew hlm ho
      rw [hlm] at ho
      have HM := Lib.hid hm
      have g0 : (0 : Int) ≤ (j : Int) := by omega
      have g1 : (j : Int) < (n : Int) := by omega
      have h69 := hsp.size
      have HAV := Lib.hid (fun (o : Value) (nl : Nat) (h : Lies w9.heap.size (.slice A3 m c3) o) (h2 : m ≤ nl) => bk_apart_kept hKV (Nat.le_refl _) hv1 h hl1 (by rw [← hm]; exact h2))
      have HAO := Lib.hid (fun (o : Value) (h : Lies w9.heap.size (.slice A3 m c3) o) => bk_apart_outs HX.out.2.2 hKO hv1 h HOL.out hloc (by omega))
      have HLOC := Lib.hid hloc
      have HMSO := Lib.hid hms
      have HV1 := Lib.hid hv1
      clear hm hlm hl1 hv1 hloc hms bx rr
      go_upto_region 6 with fail
      go_wp2
      clear x0 y1
      go_loopw [5, 6] (fun lv q wr => ∃ (t : Nat), t ≤ 12 ∧ q = .int .i64 t ∧ wr.ownsRow B 61 7 lv (m + t) ((marks mkRecords j 0 (m + t)).flatMap Rc.cells) ∧ Lies w9.heap.size (.slice A3 m c3) lv ∧ w9.heap.size ≤ wr.heap.size ∧ wr.ownsRow w6.heap.size 49 1 u3 j os ∧ Kept Rc.cells 61 7 wr B os ms ∧ Kept Rc.cells 61 7 wr B vs ls ∧ Spares B 61 w6 wr) (fun _ q _ => 12 - (intOf q).toNat)
      case atStart => exact ⟨0, by omega, rfl, ho, .inl rfl, Nat.le_refl _, hout, hKO, hKV, hsp⟩
      case round =>
        clear ho hout hKO hKV hsp
        obtain ⟨t, ht, rfl, hlv, hlie, hsz, hout, hKO, hKV, hsp⟩ := hrel
        obtain ⟨s, hs⟩ : ∃ s, s = m + t := ⟨_, rfl⟩
        rw [← hs] at hlv
        have hsb : s ≤ 50012 := by omega
        have hms0 : m ≤ s := by omega
        have HSE := Lib.hid hs
        clear hs
        obtain ⟨A5, c5, rfl, _⟩ := bk_sl hlv
        have HLV := Lib.hid hlv
        by_cases h12 : t < 12
        · have q0 : (0 : Int) ≤ (t : Int) := by omega
          have q1 : (t : Int) < 12 := by omega
          go_wp2_with (first
            | (at_builtin; refine wpList_append_keep _ rfl _ _ 49 rfl B 61 i0 _ 7 64 Tryz.underlying49 HI.out HI0.out HI1.out HI2.out rfl (by decide) (.slice A5 s c5) s _ rfl HLV1.out A1 1 c1 _ rfl HCL.out HS1.out HON.out ?c4 ?c5 ?c6 ?_
               (unfold maxLen; omega)
               (omega)
               (have := hb1.size; have := HBW.out; omega)
               intro v' w2 hown2 hg2 hat2 hlv2)
            | (go_at_call 100; refine (markRecords_any j s 1 wr (by omega) (by omega)).mono ?_; rintro e w1 ⟨v1, rfl, ho1, hb1⟩; obtain ⟨A1, c1, rfl, hs1⟩ := bk_sl ho1
               have HLV1 := Lib.hid (bk_below HLV.out hb1)
               have HS1 := Lib.hid hs1
               have HCL := Lib.hid (show ((marks mkRecords j s 1).flatMap Rc.cells).length = 1 * 7 from by rw [rowK_len rc_len, marks_len])
               have HON := Lib.hid (rows_oneCell (marks mkRecords j s 1))
               have HBW := Lib.hid (And.intro (show B ≤ wr.heap.size from by omega) (show w6.heap.size ≤ wr.heap.size from by omega))
               clear ho1 hs1))
          rw [← List.flatMap_append, marks_join] at hown2
          have hout2 := (bk_below hout hb1).kept hg2 (bk_apart (bk_below hout hb1) HLV1.out (by decide))
          have hKO2 := (hKO.below hb1).leaves hlv2 (fun i x l hx hl => .inr (HAO.out _ hlie i x hx))
          have hKV2 := (hKV.below hb1).leaves hlv2 (HAV.out _ _ hlie (by omega))
          have hsp2 := hsp.trans ((Spares.of_below hb1).trans (Spares.row hg2 HLV1.out))
          have hlie2 := hlie.step (s := w1.heap.size) (by have := hb1.size; omega) hat2
          have hsz2 : w9.heap.size ≤ w2.heap.size := by have := hb1.size; have := hg2.size; omega
          go_wp2
          go_roundw
          case rel => exact ⟨t + 1, by omega, by go_num, by rw [show m + (t + 1) = s + 1 by rw [HSE.out]; omega]; exact hown2, hlie2, hsz2, hout2, hKO2, hKV2, hsp2⟩
          case measure => simp [intOf]; omega
        · have q1 : decide ((t : Int) < 12) = false := decide_eq_false (by omega)
          go_wp2_with (first
            | (at_builtin; refine wpList_append_sl _ rfl _ _ 37 rfl w6.heap.size 49 i1 _ 1 24 Tryz.underlying37 HJ.out HJ0.out HJ1.out HJ2.out rfl (by decide) u3 j os rfl HOUT.out (some ⟨w2.heap.size, 0, none⟩) 1 1 [.slice A2 s2 c2] rfl rfl HSL.out HON2.out ?d4 ?d5 ?d6 ?_
               (unfold maxLen; omega)
               (omega)
               (have := hb1.size; have := hg2.size; have := HBW.out; simp; omega)
               intro v3 w3 hown3 hg3 _)
            | (at_builtin; refine wpList_append_keep _ rfl _ _ 49 rfl B 61 i0 _ 7 64 Tryz.underlying49 HI.out HI0.out HI1.out HI2.out rfl (by decide) (.slice A5 s c5) s _ rfl HLV1.out A1 60 c1 _ rfl HCL.out HS1.out HON.out ?e4 ?e5 ?e6 ?_
               (unfold maxLen; omega)
               (omega)
               (have := hb1.size; have := HBW.out; omega)
               intro v' w2 hown2 hg2 hat2 hlv2
               rw [← List.flatMap_append, marks_join] at hown2
               obtain ⟨s2, hs2⟩ : ∃ s2, s2 = s + 60 := ⟨_, rfl⟩
               rw [← hs2] at hown2
               have hs2b : s2 ≤ 50072 := by omega
               have HSF := Lib.hid hs2
               clear hs2
               obtain ⟨A2, c2, rfl, _⟩ := bk_sl hown2
               have hba := (Below.refl w2.heap.size w2).alloc (Nat.le_refl _) (.cells #[.slice A2 s2 c2] 49)
               have hout2 := (bk_below hout hb1).kept hg2 (bk_apart (bk_below hout hb1) HLV1.out (by decide))
               have HOUT := Lib.hid (bk_below hout2 hba)
               have HSL := Lib.hid (Sl.new w2 49 w2.heap.size [.slice A2 s2 c2] #[.slice A2 s2 c2] rfl rfl)
               have HON2 := Lib.hid (show ∀ x ∈ [Value.slice A2 s2 c2], x.oneCell' = true from fun x hx => by rw [List.mem_singleton.1 hx]; rfl)
               have HK2 := Lib.hid (And.intro ((hKO.below hb1).leaves hlv2 (fun i x l hx hl => .inr (HAO.out _ hlie i x hx))) ((hKV.below hb1).leaves hlv2 (HAV.out _ _ hlie (by omega))))
               have HSP2 := Lib.hid (hsp.trans ((Spares.of_below hb1).trans (Spares.row hg2 HLV1.out)))
               have HLI2 := Lib.hid (hlie.step (s := w1.heap.size) (by have := hb1.size; omega) hat2)
               clear HLV1 hout2)
            | (go_at_call 100; refine (markRecords_any j s 60 wr (by omega) (by omega)).mono ?_; rintro e w1 ⟨v1, rfl, ho1, hb1⟩; obtain ⟨A1, c1, rfl, hs1⟩ := bk_sl ho1
               have HLV1 := Lib.hid (bk_below HLV.out hb1)
               have HS1 := Lib.hid hs1
               have HCL := Lib.hid (show ((marks mkRecords j s 60).flatMap Rc.cells).length = 60 * 7 from by rw [rowK_len rc_len, marks_len])
               have HON := Lib.hid (rows_oneCell (marks mkRecords j s 60))
               have HBW := Lib.hid (And.intro (show B ≤ wr.heap.size from by omega) (show w6.heap.size ≤ wr.heap.size from by omega))
               clear ho1 hs1))
          have hml : ms.length = j := by have := hKO.len; have := HOL.out; omega
          have hnew : w3.ownsRow B 61 7 (.slice A2 s2 c2) s2 ((marks mkRecords j 0 s2).flatMap Rc.cells) := (bk_below hown2 hba).kept hg3 (bk_apart (bk_below hown2 hba) HOUT.out (by decide))
          have hKO3 : Kept Rc.cells 61 7 w3 B (os ++ [.slice A2 s2 c2]) (ms ++ [marks mkRecords j 0 s2]) := by
            refine Kept.push ((HK2.out.1.below hba).grown HOUT.out hg3 (by decide)) (by rw [marks_len]; exact hnew) (by rw [marks_len]; omega) ?_
            exact fun i x hx => HAO.out _ HLI2.out i x hx
          have hKV3 : Kept Rc.cells 61 7 w3 B vs ls := (HK2.out.2.below hba).grown HOUT.out hg3 (by decide)
          have hsp3 : Spares B 61 w6 w3 := by
            have h1 := HSP2.out.trans (.of_below hba)
            refine ⟨hg3.os.trans h1.os, hg3.tape.trans h1.tape, hg3.output.trans h1.output, Nat.le_trans h1.size hg3.size, fun b hb hd => ?_⟩
            have hlo := HOUT.out.lt
            have hs1 := h1.size
            exact (hg3.block b (by omega) (fun e => by have := (hlo b e.symm).1; omega)).trans (h1.block b hb hd)
          go_wp2
          go_roundw
          case rel =>
            refine ⟨j + 1, os ++ [.slice A2 s2 c2], ms ++ [marks mkRecords j 0 s2], by omega, by go_num, hown3, hKO3, ?_, ?_, hsp3, hKV3⟩
            · refine bk_snoc HMSO.out ?_
              rw [marks_len, hml]
            · intro i x v hx hv
              exact bk_snoc (P := fun i x => ∀ v, vs[i]? = some v → Lies w6.heap.size v x) (fun i y hy v hv => HLOC.out i y v hy hv) (fun v hv => by
                rw [HOL.out, HV1.out] at hv
                cases hv
                exact HLI2.out.low h69) i x hx v hv
          case measure => simp [intOf]; omega
    · have g1 : decide ((j : Int) < (n : Int)) = false := decide_eq_false (by omega)
      have hje : j = n := by omega
      subst hje
      go_wp2
      go_ret
      exact ⟨_, os, ms, rfl, hout, hKO, hms, hsp, hKV⟩

end Go.Proofs.YtcglbbabfkbcbadGreat
