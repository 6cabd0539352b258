/-
  ViewOrder: its walk.
-/
import Derived.Test.YtcmlfepmgiikpaaLaterLaws
import Derived.Test.YtcmlfepmgiikpaaViewAlive
import Derived.Test.YtcmlfepmgiikpaaSameRecsV
import Derived.Test.YtcmlfepmgiikpaaFillV
import Derived.Test.YtcmlfepmgiikpaaSmpRow
import Derived.Test.YtcmlfepmgiikpaaApp
import Derived.Deep.CutBlock
import Derived.Test.YtcmlfepmgiikpaaSameQuietV
import Derived.BigQuiet
namespace Go.Proofs.Ytcmlfepmgiikpaa
open Go.ChangeShapes Go.WideShapes Go.ChangeAt Go.RowKit Go.Deep Go.Maps

/-- What stays: two boxes, while calls go on. -/
structure TwoB (w0 w' : World) (b : Nat) (nm : ByteArray) (A : Option Addr) (n c : Nat) (s : Smp) : Prop where
  bx : Bx w' b 24 #[.string nm, .slice A n c]
  bs : Bx w' (b + 1) 28 #[.string s.nm, .int .i64 s.tm, .int .i64 s.vl]
  bel : Below w0.heap.size w0 w'
section
variable {w0 w w' : World} {b : Nat} {nm : ByteArray} {A : Option Addr} {n c : Nat} {s : Smp}
theorem TwoB.below (h : TwoB w0 w b nm A n c s) (hb : Below w.heap.size w w') : TwoB w0 w' b nm A n c s := ⟨h.bx.below hb, h.bs.below hb, h.bel.trans (hb.mono h.bel.size)⟩
theorem TwoB.full (h : TwoB w0 w b nm A n c s) : w.cell? ⟨b, 0, none⟩ = some (.string nm) ∧ w.cell? ⟨b, 1, none⟩ = some (.slice A n c) ∧ w.cell? ⟨b + 1, 0, none⟩ = some (.string s.nm) ∧ w.cell? ⟨b + 1, 1, none⟩ = some (.int .i64 s.tm) ∧ w.cell? ⟨b + 1, 2, none⟩ = some (.int .i64 s.vl) := ⟨h.bx.at_ 0 rfl, h.bx.at_ 1 rfl, h.bs.at_ 0 rfl, h.bs.at_ 1 rfl, h.bs.at_ 2 rfl⟩
end
/-- The reach's box and the sample's, while calls go on. -/
structure OrS (w0 w' : World) (g b : Nat) (now : Int) (nm : ByteArray) (A : Option Addr) (n c : Nat) (B : Option Addr) (d : Nat) (s : Smp) : Prop where
  br : Bx w' g 36 #[.int .i64 now, .string nm, .slice A n c, .slice B 0 d]
  bs : Bx w' b 28 #[.string s.nm, .int .i64 s.tm, .int .i64 s.vl]
  bel : Below w0.heap.size w0 w'
  lt : g < w0.heap.size ∧ b < w0.heap.size
section
variable {w0 w w' : World} {g b : Nat} {now : Int} {nm : ByteArray} {A : Option Addr} {n c : Nat} {B : Option Addr} {d : Nat} {s : Smp}
theorem OrS.below (h : OrS w0 w g b now nm A n c B d s) (hb : Below w.heap.size w w') : OrS w0 w' g b now nm A n c B d s := ⟨h.br.below hb, h.bs.below hb, h.bel.trans (hb.mono h.bel.size), h.lt⟩
theorem OrS.grown (h : OrS w0 w g b now nm A n c B d s) {row : Option Nat} (hg : w.grownBy w' row) (hr : ∀ k, row = some k → w0.heap.size ≤ k) : OrS w0 w' g b now nm A n c B d s :=
  ⟨h.br.grown hg (fun e => by have := hr _ e.symm; have := h.lt.1; omega), h.bs.grown hg (fun e => by have := hr _ e.symm; have := h.lt.2; omega), h.bel.grown hg h.bel.size hr, h.lt⟩
theorem OrS.drew (h : OrS w0 w g b now nm A n c B d s) : OrS w0 w.drew g b now nm A n c B d s := h.below ((Below.refl _ _).drew)
theorem OrS.alloc (h : OrS w0 w g b now nm A n c B d s) (o : Obj) : OrS w0 (w.alloc o) g b now nm A n c B d s := h.below ((Below.refl _ _).alloc (Nat.le_refl _) o)
theorem OrS.full (h : OrS w0 w g b now nm A n c B d s) : OrS w0 w g b now nm A n c B d s ∧ w.cell? ⟨g, 0, none⟩ = some (.int .i64 now) ∧ w.cell? ⟨g, 1, none⟩ = some (.string nm) ∧ w.cell? ⟨g, 2, none⟩ = some (.slice A n c) ∧ w.cell? ⟨g, 3, none⟩ = some (.slice B 0 d) ∧ w.cell? ⟨b, 0, none⟩ = some (.string s.nm) ∧ w.cell? ⟨b, 1, none⟩ = some (.int .i64 s.tm) ∧ w.cell? ⟨b, 2, none⟩ = some (.int .i64 s.vl) :=
  ⟨h, h.br.at_ 0 rfl, h.br.at_ 1 rfl, h.br.at_ 2 rfl, h.br.at_ 3 rfl, h.bs.at_ 0 rfl, h.bs.at_ 1 rfl, h.bs.at_ 2 rfl⟩
end
/-- One list of the lists. -/
theorem VRows.get {w : World} {B : Nat} {v : Value} {vs : List Value} {Ls : List (List Rc)} (h : VRows w B v vs Ls) {j : Nat} (hj : j < Ls.length) (hok : ∀ x ∈ Ls[j], x.Ok) (hn : Ls[j].length ≤ maxLen) :
    ∃ g off c A cj, v = .slice (some ⟨g, off, none⟩) Ls.length c ∧ g < w.heap.size ∧ w.cell? ⟨g, off + j, none⟩ = some (.slice A Ls[j].length cj) ∧ Rcs w A Ls[j].length Ls[j] := by
  have hj' : j < vs.length := by rw [h.len]; exact hj
  obtain ⟨A, c, rfl, hs⟩ := own_sl h.own
  obtain ⟨g, off, rfl, hg, hc⟩ := hs.get hj'
  obtain ⟨Aj, cj, e, hR⟩ := own_rcs (h.each j hj' hj) hok hn
  rw [e] at hc
  exact ⟨g, off, c, Aj, cj, by rw [h.len], hg, hc, hR⟩
theorem VRows.slice {w : World} {B : Nat} {v : Value} {vs : List Value} {Ls : List (List Rc)} (h : VRows w B v vs Ls) : ∃ A c, v = .slice A Ls.length c := by
  obtain ⟨A, c, e, _⟩ := own_sl h.own
  exact ⟨A, c, by rw [e, h.len]⟩
theorem view_at {w : World} {B : Nat} {v : Value} {vs : List Value} {r : Rch} {l : List Smp} {n : Nat} (h : VRows w B v vs (viewAll r l n)) {j : Nat} (hj : j < n) (hok : ∀ s ∈ l, s.Ok) (hl : l.length ≤ 1000) :
    ∃ g off c A cj, v = .slice (some ⟨g, off, none⟩) n c ∧ g < w.heap.size ∧ w.cell? ⟨g, off + j, none⟩ = some (.slice A (viewL r j l).length cj) ∧ Rcs w A (viewL r j l).length (viewL r j l) := by
  have e : (viewAll r l n)[j]'(by rw [viewAll_len]; exact hj) = viewL r j l := by unfold viewAll; simp
  have hv := view_len r j l
  obtain ⟨g, off, c, A, cj, h1, h2, h3, h4⟩ := h.get (j := j) (by rw [viewAll_len]; exact hj) (by rw [e]; exact view_ok r j l hok) (by rw [e]; unfold maxLen; omega)
  rw [e] at h3 h4
  rw [viewAll_len] at h1
  exact ⟨g, off, c, A, cj, h1, h2, h3, h4⟩
set_option maxRecDepth 100000 in
set_option maxHeartbeats 16000000 in
theorem walk_viewOrder {w : World} {v0 : Value} (x : ByteArray × Option Addr × Nat × Nat × List Ti) (hx : PolArg w v0 x) (now : Int) (hnow : (Lit.int .i64 now).wf = true) {v2 : Value} (y : Option Addr × Nat × Nat × List Smp) (hy : SmpsArg w v2 y) (E : Option Addr) (q eq : Nat) (zs : List Int) (hzs : Ints w .i64 E q zs) {v4 : Value} (s : Smp) (hs : SmpArg v4 s) :
    Calls Try.prog 3 #[v0, .int .i64 now, v2, .slice E q eq, v4] w fun e w' => e = .returned (.bool true) ∧ Below w.heap.size w w' := by
  obtain ⟨nm, A, n, c, ts⟩ := x
  obtain ⟨hval, hnm, hts⟩ := hx
  simp only at hval hnm hts
  subst hval
  obtain ⟨C, k, ec, l⟩ := y
  obtain ⟨hval, hl⟩ := hy
  simp only at hval hl
  subst hval
  obtain ⟨hval, hsok⟩ := hs
  subst hval
  have hnb := bd_i64' hnow
  have hb0 : Below w.heap.size w ((w.alloc (.cells #[.string nm, .slice A n c] 24)).alloc (.cells #[.string s.nm, .int .i64 s.tm, .int .i64 s.vl] 28)) := ((Below.refl _ w).alloc (Nat.le_refl _) _).alloc (by simp) _
  have B0 := (Bx.new w 24 #[.string nm, .slice A n c]).alloc (.cells #[.string s.nm, .int .i64 s.tm, .int .i64 s.vl] 28)
  have B1 := Bx.new (w.alloc (.cells #[.string nm, .slice A n c] 24)) 28 #[.string s.nm, .int .i64 s.tm, .int .i64 s.vl]
  rw [show (w.alloc (.cells #[.string nm, .slice A n c] 24)).heap.size = w.heap.size + 1 from by simp] at B1
  have T0 : TwoB w _ w.heap.size nm A n c s := ⟨B0, B1, hb0⟩
  have HTS := Lib.hid hts
  have HL := Lib.hid hl
  have HZ := Lib.hid hzs
  have HSO := Lib.hid hsok
  have hqm := hzs.n_le
  unfold maxLen at hqm
  have hsz := hsok.nm
  unfold maxLen at hsz
  obtain ⟨ce, hce⟩ : ∃ ce, (checkR nm.toList ts).1 = ce := ⟨_, rfl⟩
  have HCK := Lib.hid (refCheck_any nm A n c ts _ hnm (hts.below hb0))
  rw [hce] at HCK
  clear hce hts hl hnow hb0 B0 B1 hzs hsok
  obtain ⟨p0, p1, _, _, _⟩ := T0.full
  go_enter Try.func3, Try.ntmps3
  go_wp2_with fail
  refine HCK.out.mono ?_
  rintro e w1 ⟨rfl, hb1⟩
  have T1 := T0.below hb1
  clear p0 p1 hb1 T0 HCK
  obtain ⟨p0, p1, p2, p3, p4⟩ := T1.full
  go_wp2_with fail
  refine (small_any nm A n c ts w1 hnm (HTS.out.below T1.bel)).mono ?_
  rintro e w2 ⟨b, rfl, hsm, hb2⟩
  have T2 := T1.below hb2
  have hbw := T2.bel
  clear hb2 T1 p0 p1 p2 p3 p4
  cases b
  · clear hsm
    go_wp2_with fail
    refine (alive_any _).mono ?_
    rintro e w9 ⟨rfl, hb9⟩
    go_wp2_with fail
    go_ret
    exact ⟨rfl, hbw.trans (hb9.mono hbw.size)⟩
  · obtain ⟨hn10, _⟩ := hsm rfl
    go_wp2_with fail
    refine (some_any 30 C k ec l w2 (HL.out.below hbw) (by omega)).mono ?_
    rintro e w3 ⟨b, rfl, hso, rfl⟩
    cases b
    · clear hso
      go_wp2_with fail
      refine (alive_any _).mono ?_
      rintro e w9 ⟨rfl, hb9⟩
      go_wp2_with fail
      go_ret
      exact ⟨rfl, hbw.trans (hb9.mono hbw.size)⟩
    · have hk40 := hso rfl
      have HK40 : k ≤ 30 := by omega
      clear hso hk40
      obtain ⟨p0, p1, p2, p3, p4⟩ := T2.full
      by_cases hg0 : 60 < (q : Int)
      · clear T2
        go_wp2_with fail
        refine (alive_any _).mono ?_
        rintro e w9 ⟨rfl, hb9⟩
        go_wp2_with fail
        go_ret
        exact ⟨rfl, hbw.trans (hb9.mono hbw.size)⟩
      have hd0 : decide (60 < (q : Int)) = false := decide_eq_false hg0
      by_cases hg1 : 60 < (s.nm.size : Int)
      · clear T2
        go_wp2_with fail
        refine (alive_any _).mono ?_
        rintro e w9 ⟨rfl, hb9⟩
        go_wp2_with fail
        go_ret
        exact ⟨rfl, hbw.trans (hb9.mono hbw.size)⟩
      have hd1 : decide (60 < (s.nm.size : Int)) = false := decide_eq_false hg1
      by_cases hg4 : ce = 0
      rotate_left
      · have hne : (ce == 0) = false := beq_eq_false_iff_ne.2 hg4
        clear T2 hg4
        go_wp2_with fail
        refine (alive_any _).mono ?_
        rintro e w9 ⟨rfl, hb9⟩
        go_wp2_with fail
        go_ret
        exact ⟨rfl, hbw.trans (hb9.mono hbw.size)⟩
      subst hg4
      obtain ⟨i0, hi, hz0, hz1, hz2⟩ := info_parts info_smp
      have hfl := Lib.hid (smps_cells HL.out)
      have hlen := Lib.hid HL.out.len
      have hfit : 0 + k ≤ maxLen ∧ (0 + k) * 32 ≤ 140737488355328 := by unfold maxLen; omega
      have HL2 := Lib.hid (HL.out.below T2.bel)
      go_upto_block 0 with (first
        | (at_builtin; refine wpList_append_sl _ rfl _ _ 25 rfl w2.heap.size 28 i0 _ 3 32 Try.underlying25 hi hz0 hz1 hz2 rfl (by decide) (.slice none 0 0) 0 [] rfl (World.ownsRow_nil _ _ _ _) C k ec _ rfl hfl.out HL2.out.sl (smps_one l) hfit.1 hfit.2 (Nat.le_refl _) ?_; intro v1 w3 hown1 hg1 _))
      have hb3 : Below w2.heap.size w2 w3 := (Below.refl _ _).grown hg1 (Nat.le_refl _) (fun k hk => by cases hk)
      have HM1 := Lib.hid (show SMRow w3 w2.heap.size v1 k l from ⟨hlen.out, by simpa using hown1⟩)
      have HI := Lib.hid hi
      have HI0 := Lib.hid hz0
      have HI1 := Lib.hid hz1
      have HI2 := Lib.hid hz2
      clear hown1 hg1 hi hz0 hz1 hz2 hfit p0 p1 p2 p3 p4 hbw
      obtain ⟨A1, c1, rfl⟩ : ∃ A1 c1, v1 = .slice A1 k c1 := by
        obtain ⟨A1, c1, e, _⟩ := HM1.out.smps HL.out.ok (by unfold maxLen; omega)
        exact ⟨A1, c1, e⟩
      go_cut [14, 15, 16] from 55 to 107 (fun s14 s15 s16 wx => ∃ ms : List Smp, Hid (ms.Perm l) ∧ Hid (SMRow wx w2.heap.size (.slice A1 k c1) k ms) ∧ Below w2.heap.size w2 wx)
      case first =>
        go_wp2_with fail
        go_loopw [14] (fun i wr => ∃ (j : Nat) (ms : List Smp), j ≤ 1000 ∧ i = .int .i64 j ∧ Hid (ms.Perm l) ∧ Hid (SMRow wr w2.heap.size (.slice A1 k c1) k ms) ∧ Below w2.heap.size w2 wr) (fun i _ => q - (intOf i).toNat)
        case atStart => exact ⟨0, l, by omega, rfl, Lib.hid (List.Perm.refl _), HM1, hb3⟩
        case round =>
          clear HM1 hb3
          obtain ⟨j, ms, hj, rfl, HP, HM, hbel⟩ := hrel
          by_cases hgo : j + 1 < q ∧ 0 < k
          · obtain ⟨hlt, h0⟩ := hgo
            have hsw : ∃ g, A1 = some ⟨g, 0, none⟩ ∧ w2.heap.size ≤ g ∧ SRowAt wr g c1 ms := by
              obtain ⟨g, c, e, h1, h2⟩ := HM.out.row h0
              cases e
              exact ⟨g, rfl, h1, h2⟩
            obtain ⟨g, rfl, hg, hR⟩ := hsw
            have hml := HM.out.1
            have HZL := Lib.hid HZ.out.len
            have hb2 := T2.bel
            obtain ⟨b2, off2, rfl, hbb2, z1⟩ := (HZ.out.below (hb2.trans (hbel.mono hb2.size))).get (j := j) (by rw [HZL.out]; omega)
            obtain ⟨b3, off3, e3, hbb3, z2⟩ := (HZ.out.below (hb2.trans (hbel.mono hb2.size))).get (j := j + 1) (by rw [HZL.out]; omega)
            cases e3
            have K1 : j < zs.length := by rw [HZL.out]; omega
            have K2 : j + 1 < zs.length := by rw [HZL.out]; omega
            have hx1 := place_bd (zs[j]'K1) k h0
            have hx2 := place_bd (zs[j + 1]'K2) k h0
            generalize zs[j]'K1 = x at *
            generalize zs[j + 1]'K2 = y at *
            go_wp2
            obtain ⟨x1, x2, x3, x4⟩ := hx1
            obtain ⟨y1, y2, y3, y4⟩ := hx2
            have g0 : (0 : Int) ≤ (j : Int) := by omega
            have g1 : (j : Int) < (q : Int) := by omega
            have g2 : (0 : Int) ≤ (j : Int) + 1 := by omega
            have g3 : (j : Int) + 1 < (q : Int) := by omega
            have g4 : ((k : Int) == 0) = false := beq_eq_false_iff_ne.2 (by omega)
            have e0 : IntKind.i64.wrap ((j : Int) + 1) = (j : Int) + 1 := IntWalk.i64_in _ (by omega)
            have e1 : IntKind.i64.wrap (x.tmod k + k) = x.tmod k + k := IntWalk.i64_in _ (by omega)
            have e2 : IntKind.i64.wrap (y.tmod k + k) = y.tmod k + k := IntWalk.i64_in _ (by omega)
            go_quiet (fail)
            clear e0 e1 e2
            obtain ⟨a, ha⟩ : ∃ a : Nat, (x.tmod k + k) % k = (a : Int) := ⟨((x.tmod k + k) % k).toNat, by have := Int.emod_nonneg (x.tmod k + k) (show (k : Int) ≠ 0 by omega); omega⟩
            obtain ⟨b, hb⟩ : ∃ b : Nat, (y.tmod k + k) % k = (b : Int) := ⟨((y.tmod k + k) % k).toNat, by have := Int.emod_nonneg (y.tmod k + k) (show (k : Int) ≠ 0 by omega); omega⟩
            have han : a < k := by have := Int.emod_lt_of_pos (x.tmod k + k) (show (0 : Int) < k by omega); omega
            have hbn : b < k := by have := Int.emod_lt_of_pos (y.tmod k + k) (show (0 : Int) < k by omega); omega
            rw [ha, hb]
            have hR2 := hR.kept (grown_of_below (below_drewN (Below.refl _ _) nq) none) (by simp)
            have hbel2 := below_drewN hbel nq
            clear ha hb x1 x2 x3 x4 y1 y2 y3 y4 z1 z2 hR hbel
            generalize wr.drewN nq = wd at *
            have KA : a < ms.length := by rw [hml]; exact han
            have KB : b < ms.length := by rw [hml]; exact hbn
            obtain ⟨p0, p1, p2⟩ := hR2.get KA
            obtain ⟨q0, q1, q2⟩ := hR2.get KB
            obtain ⟨t, s0, s1, s2⟩ := srow_set_get hR2 a b KB (ms[b]'KB)
            have f0 := fun o => hR2.free o
            have HS := Lib.hid ((hR2.setSmp a (ms[b]'KB)).setSmp b (ms[a]'KA))
            have HQ := Lib.hid (sswap_perm ms a b KA KB)
            have HG := Lib.hid ((grown_setCells g (ms[b]'KB).cells (a * 3) wd).andThen (grown_setCells g (ms[a]'KA).cells (b * 3) _) (fun j hj => by cases hj; exact Or.inr rfl))
            clear hR2
            generalize (ms[a]'KA) = xa at *
            generalize (ms[b]'KB) = xb at *
            have a0 : (0 : Int) ≤ (a : Int) := by omega
            have a1 : (a : Int) < (k : Int) := by omega
            have b0 : (0 : Int) ≤ (b : Int) := by omega
            have b1 : (b : Int) < (k : Int) := by omega
            go_wp2
            go_region
            go_wp2
            go_roundw
            case rel =>
              refine ⟨j + 1, (ms.set a xb).set b xa, by omega, by go_num, Lib.hid (HQ.out.trans HP.out), Lib.hid ?_, ?_⟩
              · have h1 : SMRow _ w2.heap.size _ _ _ := SMRow.of_row HS.out hg
                rw [show ((ms.set a xb).set b xa).length = k from by simpa using hml] at h1
                exact h1.below ((Below.refl _ _).drew)
              · exact (hbel2.grown HG.out hbel2.size (fun k hk => by cases hk; exact hg)).drew
            case measure => simp [intOf]; omega
          · by_cases hlt : j + 1 < q
            all_goals
              first
                | (have hd0 : decide (0 < (k : Int)) = false := decide_eq_false (by omega)
                   go_wp2_with fail)
                | (have hd0 : decide ((j : Int) + 1 < (q : Int)) = false := decide_eq_false (by omega)
                   go_wp2_with fail)
              go_meet
              exact ⟨ms, HP, HM, hbel⟩
      case rest =>
        clear HM1 hb3
        obtain ⟨ms, HP, HM, hbel⟩ := hcut
        have hml := HM.out.1
        have HQ := Lib.hid (show ∀ i : Int, viewL ⟨now, nm, ts, []⟩ i ms = viewL ⟨now, nm, ts, []⟩ i l from fun i => view_perm _ i HP.out (fun s h => HL.out.ok s (HP.out.mem_iff.1 h)))
        obtain ⟨_, _, eM, HM2⟩ := HM.out.smps (fun s h => HL.out.ok s (HP.out.mem_iff.1 h)) (by unfold maxLen; omega)
        cases eM
        have HMO := Lib.hid (show ∀ s ∈ ms, s.Ok from fun s h => HL.out.ok s (HP.out.mem_iff.1 h))
        have T3 := T2.below hbel
        clear T2 HM HP
        obtain ⟨p0, p1, _, _, _⟩ := T3.full
        go_wp2_with fail
        refine (reachOf_any now nm A n c ts none 0 0 [] wc (HTS.out.below T3.bel) ⟨Sl.nil _ _, rfl, by decide, by simp⟩ (by omega) (by omega) hnb).mono ?_
        rintro e w4 ⟨A', c', B', d', rfl, hR, _, _, hb4⟩
        have HM4 := HM2.below hb4
        have T4 := T3.below hb4
        have HLT := Lib.hid (show w4.heap.size < (w4.alloc (.cells #[.int .i64 now, .string nm, .slice A' n c', .slice B' 0 d'] 36)).heap.size ∧ w.heap.size + 1 < (w4.alloc (.cells #[.int .i64 now, .string nm, .slice A' n c', .slice B' 0 d'] 36)).heap.size from by have := T4.bs.lt; simp; omega)
        have S5 : OrS (w4.alloc (.cells #[.int .i64 now, .string nm, .slice A' n c', .slice B' 0 d'] 36)) _ w4.heap.size (w.heap.size + 1) now nm A' n c' B' d' s := ⟨Bx.new w4 36 #[.int .i64 now, .string nm, .slice A' n c', .slice B' 0 d'], T4.bs.alloc _, Below.refl _ _, HLT.out⟩
        have hba5 := (Below.refl w4.heap.size w4).alloc (Nat.le_refl _) (.cells #[.int .i64 now, .string nm, .slice A' n c', .slice B' 0 d'] 36)
        have HB5 := Lib.hid (T4.bel.trans (hba5.mono T4.bel.size))
        have HR5 := Lib.hid (hR.below hba5)
        have HM5 := Lib.hid (HM4.below hba5)
        have HL5 := Lib.hid (HL.out.below HB5.out)
        have hlen5 := Lib.hid HM5.out.len
        clear HM2 T3 hb4 p0 p1 hR HM4 T4 hba5 HLT hbel
        go_upto_region 11 with fail
        generalize w4.alloc (.cells #[.int .i64 now, .string nm, .slice A' n c', .slice B' 0 d'] 36) = w5 at *
        obtain ⟨b5, hb5⟩ : ∃ b5, b5 = w.heap.size + 1 := ⟨_, rfl⟩
        rw [← hb5] at S5
        rw [← hb5]
        have HRN := Lib.hid HR5.out.ts.len
        generalize w4.heap.size = g5 at *
        clear hb5
        have S5D := S5.drew
        go_region_held3 (fun w' => OrS w5 w' g5 b5 now nm A' n c' B' d' s ∧ w'.cell? ⟨g5, 0, none⟩ = some (.int .i64 now) ∧ w'.cell? ⟨g5, 1, none⟩ = some (.string nm) ∧ w'.cell? ⟨g5, 2, none⟩ = some (.slice A' n c') ∧ w'.cell? ⟨g5, 3, none⟩ = some (.slice B' 0 d') ∧ w'.cell? ⟨b5, 0, none⟩ = some (.string s.nm) ∧ w'.cell? ⟨b5, 1, none⟩ = some (.int .i64 s.tm) ∧ w'.cell? ⟨b5, 2, none⟩ = some (.int .i64 s.vl))
          (first
            | assumption
            | exact S5D.full
            | (go_split_ands; exact OrS.full (by assumption))
            | (go_split_ands; exact OrS.full (OrS.below (by assumption) hbx))
            | (go_split_ands; exact OrS.full (OrS.below (by assumption) hby)))
          (first
            | (go_at_call 11; go_split_ands; (with_reducible refine (all_any A' n c' B' 0 d' ⟨now, nm, ts, []⟩ C k ec l _ (HR5.out.below (OrS.bel (by assumption))) (by omega) (HL5.out.below (OrS.bel (by assumption))) (by omega)).mono ?_); rintro e wx ⟨vx, vsx, rfl, hvx, hbx⟩; obtain ⟨Ax, cx, rfl⟩ := hvx.slice)
            | (go_at_call 11; go_split_ands; refine (all_any A' n c' B' 0 d' ⟨now, nm, ts, []⟩ A1 k c1 ms _ (HR5.out.below (OrS.bel (by assumption))) (by omega) (HM5.out.below (OrS.bel (by assumption))) (by omega)).mono ?_; rintro e wy ⟨vy, vsy, rfl, hvy, hby⟩; obtain ⟨Ay, cy, rfl⟩ := hvy.slice))
        go_split_ands
        have S6 : OrS w5 wy g5 b5 now nm A' n c' B' d' s := by assumption
        clear S5D S5
        have hbx' := hbx
        rw [viewAll_len]
        rw [viewAll_len]
        rw [viewAll_len] at hvx
        rw [viewAll_len] at hvy
        have HVX := Lib.hid (hvx.below hby)
        have HVY := Lib.hid hvy
        clear hvx hvy hbx hby hbx'
        have HB6 := Lib.hid (HB5.out.trans (S6.bel.mono HB5.out.size))
        have HR6 := Lib.hid (HR5.out.below S6.bel)
        have HL6 := Lib.hid (HL5.out.below S6.bel)
        have S7 : OrS wy wy g5 b5 now nm A' n c' B' d' s := ⟨S6.br, S6.bs, Below.refl _ _, S6.br.lt, S6.bs.lt⟩
        clear S6 HR5 HL5 HB5
        have S6D := S7.drew
        have HLS := Lib.hid (show ∀ r ∈ l ++ [s], r.Ok from fun r hr => by
          rcases List.mem_append.1 hr with hr | hr
          · exact HL.out.ok r hr
          · rw [List.mem_singleton.1 hr]; exact HSO.out)
        have hone : ∀ u ∈ Smp.cells s, u.oneCell' = true := by
          intro u hu
          simp [Smp.cells] at hu
          rcases hu with rfl | rfl | rfl <;> rfl
        have HONE := Lib.hid hone
        have hfl2 : (l.flatMap Smp.cells).length = k * 3 := hfl.out
        clear hone
        go_upto_region 12 with fail
        go_cut [20] (fun s20 wx => OrS wy wx g5 b5 now nm A' n c' B' d' s ∧ ∃ Az cz Bz vsz, s20 = .slice Az n cz ∧ Hid (VRows wx Bz (.slice Az n cz) vsz (viewAll ⟨now, nm, ts, []⟩ (l ++ [s]) n)))
        case first =>
          go_region_held3 (fun w' => OrS wy w' g5 b5 now nm A' n c' B' d' s ∧ w'.cell? ⟨g5, 0, none⟩ = some (.int .i64 now) ∧ w'.cell? ⟨g5, 1, none⟩ = some (.string nm) ∧ w'.cell? ⟨g5, 2, none⟩ = some (.slice A' n c') ∧ w'.cell? ⟨g5, 3, none⟩ = some (.slice B' 0 d') ∧ w'.cell? ⟨b5, 0, none⟩ = some (.string s.nm) ∧ w'.cell? ⟨b5, 1, none⟩ = some (.int .i64 s.tm) ∧ w'.cell? ⟨b5, 2, none⟩ = some (.int .i64 s.vl))
            (first
              | assumption
              | exact S6D.full
              | (go_split_ands; exact OrS.full (by assumption))
              | (go_split_ands; exact OrS.full (OrS.alloc (by assumption) _))
              | (go_split_ands; exact OrS.full (OrS.below (by assumption) hba))
              | (go_split_ands; exact OrS.full (OrS.grown (by assumption) hgb HOB.out))
              | (go_split_ands; exact OrS.full (OrS.below (by assumption) hbz)))
            (first
              | (go_split_ands
                 refine step_append_sl _ rfl _ _ 25 rfl wy.heap.size 28 i0 _ 3 32 Try.underlying25 HI.out HI0.out HI1.out HI2.out rfl (by decide) (.slice none 0 0) 0 [] rfl (World.ownsRow_nil _ _ _ _) C k ec (l.flatMap Smp.cells) rfl hfl.out (HL6.out.below (OrS.bel (by assumption))).sl (smps_one l) (by unfold maxLen; omega) (by omega) (OrS.bel (by assumption)).size ?_
                 intro va wa howna hga _
                 obtain ⟨Aa, ca, ea, hsa⟩ := own_sl howna
                 rw [Nat.zero_add, List.nil_append] at howna
                 rw [Nat.zero_add] at ea
                 subst ea
                 have hba := (Below.refl _ _).grown hga (Nat.le_refl _) (fun k hk => by cases hk)
                 have HWA := Lib.hid howna
                 have HOB := Lib.hid (fun q hq => (HWA.out.lt q hq).1)
                 clear howna hsa)
              | (go_split_ands
                 refine step_append_sl _ rfl _ _ 25 rfl wy.heap.size 28 i0 _ 3 32 Try.underlying25 HI.out HI0.out HI1.out HI2.out rfl (by decide) (.slice Aa k ca) k (l.flatMap Smp.cells) rfl (own_below' HWA.out ((Below.refl _ _).alloc (Nat.le_refl _) _)) (some ⟨wa.heap.size, 0, none⟩) 1 1 (Smp.cells s) rfl rfl (Sl.new wa 28 wa.heap.size (Smp.cells s) #[.string s.nm, .int .i64 s.tm, .int .i64 s.vl] rfl rfl) HONE.out (by unfold maxLen; omega) (by omega) (OrS.bel (by assumption)).size ?_
                 intro vb wb hownb hgb _
                 obtain ⟨Ab, cb, eb, hsb⟩ := own_sl hownb
                 subst eb)
              | (go_split_ands
                 refine step_append_sl _ rfl _ _ 25 rfl wy.heap.size 28 i0 _ 3 32 Try.underlying25 HI.out HI0.out HI1.out HI2.out rfl (by decide) (.slice Aa k ca) k (l.flatMap Smp.cells) rfl HWA.out (some ⟨wy.heap.size, 0, none⟩) 1 1 (Smp.cells s) rfl rfl ((Sl.new wy.drew 28 wy.heap.size (Smp.cells s) #[.string s.nm, .int .i64 s.tm, .int .i64 s.vl] rfl rfl).below hba) HONE.out (by unfold maxLen; omega) (by omega) (OrS.bel (by assumption)).size ?_
                 intro vb wb hownb hgb _
                 obtain ⟨Ab, cb, eb, hsb⟩ := own_sl hownb
                 subst eb)
              | (go_at_call 11; go_split_ands
                 refine (all_any A' n c' B' 0 d' ⟨now, nm, ts, []⟩ Ab (k + 1) cb (l ++ [s]) _ (HR6.out.below (OrS.bel (by assumption))) (by omega) ⟨by simpa using hsb, by simp [hlen.out], by unfold maxLen; omega, HLS.out⟩ (by omega)).mono ?_
                 rintro e wz ⟨vz, vsz, rfl, hvz, hbz⟩
                 obtain ⟨Az, cz, rfl⟩ := hvz.slice))
          all_goals
            go_split_ands
            have S8 : OrS wy wz g5 b5 now nm A' n c' B' d' s := by assumption
            rw [viewAll_len] at hvz
            go_wp2_with fail
            go_meet
            exact ⟨S8, Az, cz, _, vsz, by rw [viewAll_len], Lib.hid hvz⟩
        case rest =>
          obtain ⟨S8, Az, cz, Bz, vsz, rfl, HZZ⟩ := hcut
          have HX := Lib.hid (HVX.out.below S8.bel)
          have HY := Lib.hid (HVY.out.below S8.bel)
          have HB8 := Lib.hid (HB6.out.trans (S8.bel.mono HB6.out.size))
          have HR8 := Lib.hid (HR6.out.below S8.bel)
          obtain ⟨wz0, hwz0⟩ : ∃ x, x = wc := ⟨_, rfl⟩
          subst hwz0
          have S9 : OrS wz0 wz0 g5 b5 now nm A' n c' B' d' s := ⟨S8.br, S8.bs, Below.refl _ _, S8.br.lt, S8.bs.lt⟩
          have hz60 := HSO.out.tm
          clear HVX HVY S8 S7 S6D HR6 HL6 HB6
          go_wp2_with fail
          go_loopw [21] (fun i wr => ∃ j : Nat, j ≤ n ∧ i = .int .i64 j ∧ OrS wz0 wr g5 b5 now nm A' n c' B' d' s) (fun i _ => n - (intOf i).toNat)
          case atStart => exact ⟨0, Nat.zero_le _, rfl, S9⟩
          case round =>
            clear S9
            obtain ⟨j, hj, rfl, S⟩ := hrel
            by_cases hlt : j < n
            · obtain ⟨gx, ox, _, Xx, kx, ex, _, px, RX⟩ := view_at (HX.out.below S.bel) hlt HL.out.ok (by rw [hlen.out]; omega)
              cases ex
              obtain ⟨gy, oy, _, Xy, ky, ey, _, py, RY⟩ := view_at (HY.out.below S.bel) hlt HMO.out (by rw [hlen5.out]; omega)
              cases ey
              obtain ⟨gz, oz, _, Xz, kz, ez, _, pz, RZ⟩ := view_at (HZZ.out.below S.bel) hlt HLS.out (by rw [List.length_append, hlen.out]; simp; omega)
              cases ez
              rw [HQ.out] at py RY
              obtain ⟨p0, p1, p2, p3, p4, p5, p6⟩ := S.full.2
              have g0 : (0 : Int) ≤ (j : Int) := by omega
              have gj : (j : Int) < (n : Int) := by omega
              have hhz := Lib.hid (view_less ⟨now, nm, ts, []⟩ (j : Int) l s)
              go_wp2_with fail
              refine (start_any A' n c' B' 0 d' ⟨now, nm, ts, []⟩ (j : Int) s.tm wr (HR8.out.below S.bel) (by omega) hz60).mono ?_
              rintro e w10 ⟨rfl, hb10⟩
              have px := (hb10.cell (World.block_lt_of_cell? _ _ px)).trans px
              have py := (hb10.cell (World.block_lt_of_cell? _ _ py)).trans py
              have pz := (hb10.cell (World.block_lt_of_cell? _ _ pz)).trans pz
              have HRX := Lib.hid (RX.below hb10)
              have HRY := Lib.hid (RY.below hb10)
              have HRZ := Lib.hid (RZ.below hb10)
              have S2 := S.below hb10
              clear p0 p1 p2 p3 p4 p5 p6 RX RY RZ S hb10
              generalize viewL ⟨now, nm, ts, []⟩ (j : Int) l = L at *
              generalize viewL ⟨now, nm, ts, []⟩ (j : Int) (l ++ [s]) = M at *
              generalize hhas : Rch.has ⟨now, nm, ts, []⟩ (j : Int) s.tm = has at *
              have HSX := Lib.hid (fun q => sameRecs_quiet Xx Xy L.length L.length kx ky L (w10.drewN q) (HRX.out.below (below_drewN (Below.refl _ _) q)) (HRY.out.below (below_drewN (Below.refl _ _) q)))
              cases has
              · have hML := (hhz.out rfl).symm
                subst hML
                have HSZ := Lib.hid (fun q => sameRecs_quiet Xx Xz L.length L.length kx kz L (w10.drewN q) (HRX.out.below (below_drewN (Below.refl _ _) q)) (HRZ.out.below (below_drewN (Below.refl _ _) q)))
                go_upto_region 19 with fail
                go_quiet (first
                  | (go_at_call 13; (with_reducible exact Calls.quiet_of (HSX.out _)))
                  | (go_at_call 13; exact Calls.quiet_of (HSZ.out _)))
                go_wp2_with fail
                go_roundw
                case rel => exact ⟨j + 1, by omega, by go_num, S2.below (below_drewN (Below.refl _ _) nq)⟩
                case measure => simp [intOf]; omega
              · go_upto_region 19 with fail
                go_quiet ((go_at_call 13; exact Calls.quiet_of (HSX.out _)))
                go_wp2_with fail
                go_roundw
                case rel => exact ⟨j + 1, by omega, by go_num, S2.below (below_drewN (Below.refl _ _) nq)⟩
                case measure => simp [intOf]; omega
            · have hd0 : decide ((j : Int) < (n : Int)) = false := decide_eq_false (by omega)
              have hbw := HB8.out.trans (S.bel.mono HB8.out.size)
              go_wp2_with fail
              refine (alive_any _).mono ?_
              rintro e w9 ⟨rfl, hb9⟩
              go_wp2_with fail
              go_ret
              exact ⟨rfl, hbw.trans (hb9.mono hbw.size)⟩
end Go.Proofs.Ytcmlfepmgiikpaa
