/-
  Several texts in one: GridV, Back, Reach.
-/
import Derived.Test.YtcglbbabfkbcbadGreatM4
import Derived.Test.YtcglbbabfkbcbadGreatPol
import Derived.Deep.QuietTactic
import Derived.BigQuiet
import Derived.IntWalk
/- grid.Floor. -/
namespace Go.Proofs.YtcglbbabfkbcbadGreat
open Go.RowKit

/-- The greatest multiple that is not above. -/
def flr (t e : Int) : Int := t - t % e
theorem flr_bd {t e : Int} (h : 0 ≤ t) (he : 1 ≤ e) : 0 ≤ flr t e ∧ flr t e ≤ t := by
  have h1 := Int.emod_nonneg t (show e ≠ 0 by omega)
  have h2 : t % e ≤ t := by
    rcases Int.lt_or_le t e with h3 | h3
    · rw [Int.emod_eq_of_lt h h3]; omega
    · have := Int.emod_lt_of_pos t (show 0 < e by omega); omega
  unfold flr
  omega
theorem tmod_pos {t : Int} (h : 0 ≤ t) (e : Int) : t.tmod e = t % e := Int.tmod_eq_emod_of_nonneg h
set_option maxHeartbeats 1000000 in
theorem floor_any (t e : Int) (w : World) (h : 0 ≤ t ∧ t ≤ 9223372036854775807) (he : 1 ≤ e ∧ e ≤ 9223372036854775807) : Calls Tryz.prog 106 #[.int .i64 t, .int .i64 e] w fun x w' => x = .returned (.int .i64 (flr t e)) ∧ w = w' := by
  obtain ⟨h1, h2⟩ := h
  obtain ⟨e1, e2⟩ := he
  have hne : e ≠ 0 := by omega
  have g1 := Int.emod_nonneg t hne
  have g2 := flr_bd h1 e1
  have HT := Lib.hid (tmod_pos h1 e)
  have hd : decide (e < 1) = false := decide_eq_false (by omega)
  have hm : decide (t % e < 0) = false := decide_eq_false (by omega)
  have hm' : decide (t.tmod e < 0) = false := by rw [HT.out]; exact hm
  unfold flr at g2
  obtain ⟨g3, g4⟩ := g2
  go_enter Tryz.func106, Tryz.ntmps106
  go_wp2
  go_ret
  exact ⟨ret_int (by unfold flr; first | rfl | (rw [HT.out])), rfl⟩
end Go.Proofs.YtcglbbabfkbcbadGreat
/- grid.Floor at whatever number; grid.Back. -/
namespace Go.Proofs.YtcglbbabfkbcbadGreat
open Go.RowKit

/-- The start of a bucket; of none, the time itself. -/
def flrE (t e : Int) : Int := if e < 1 then t else flr t e
set_option maxHeartbeats 1000000 in
theorem floorE_any (t e : Int) (w : World) (h : 0 ≤ t ∧ t ≤ 9223372036854775807) (he : -9223372036854775808 ≤ e ∧ e ≤ 9223372036854775807) : Calls Tryz.prog 106 #[.int .i64 t, .int .i64 e] w fun x w' => x = .returned (.int .i64 (flrE t e)) ∧ w = w' := by
  by_cases h1 : e < 1
  · have HF := Lib.hid (show flrE t e = t from if_pos h1)
    go_enter Tryz.func106, Tryz.ntmps106
    go_wp2
    go_ret
    exact ⟨ret_int HF.out.symm, rfl⟩
  · rw [show flrE t e = flr t e from if_neg h1]
    exact floor_any t e w h ⟨by omega, he.2⟩
theorem tmod_neg_bd {t e : Int} (h : t < 0) (he : 1 ≤ e) : -e < t.tmod e ∧ t.tmod e ≤ 0 ∧ t ≤ t.tmod e := by
  obtain ⟨u, rfl⟩ : ∃ u : Int, t = -u := ⟨-t, by omega⟩
  rw [Int.neg_tmod]
  have h1 := Int.tmod_lt_of_pos u (show 0 < e by omega)
  have h2 : 0 ≤ u.tmod e := Int.tmod_nonneg _ (by omega)
  have h3 : u.tmod e ≤ u := by
    rw [Int.tmod_eq_emod_of_nonneg (by omega)]
    rcases Int.lt_or_le u e with h3 | h3
    · rw [Int.emod_eq_of_lt (by omega) h3]; omega
    · have := Int.emod_lt_of_pos u (show 0 < e by omega); omega
  omega
def LowSays (w : World) (x : Ending) (w' : World) : Prop := ∃ z : Int, x = .returned (.int .i64 z) ∧ z ≤ 0 ∧ -9223372036854775808 ≤ z ∧ w = w'
set_option maxHeartbeats 1000000 in
theorem floor_low (t e : Int) (w : World) (h : -9223372036854775808 ≤ t ∧ t < 0) (he : 1 ≤ e ∧ e ≤ 9223372036854775807) : Calls Tryz.prog 106 #[.int .i64 t, .int .i64 e] w (LowSays w) := by
  obtain ⟨h1, h2⟩ := h
  obtain ⟨e1, e2⟩ := he
  have hne : e ≠ 0 := by omega
  have hd : decide (e < 1) = false := decide_eq_false (by omega)
  obtain ⟨g1, g2, g3⟩ := tmod_neg_bd h2 e1
  have hend : ∀ z : Int, z ≤ 0 → -9223372036854775808 ≤ z → LowSays w (.returned (.int .i64 z)) w := fun z a b => ⟨z, rfl, a, b, rfl⟩
  have HE := Lib.hid hend
  clear hend
  go_enter Tryz.func106, Tryz.ntmps106
  go_wp2
  all_goals
    go_ret
    exact HE.out _ (by omega) (by omega)
/-- How far back a tier reaches. -/
def backI (now keep ev : Int) : Int := if now < 0 ∨ keep < 0 ∨ ev < 1 ∨ now < keep then 0 else flr (now - keep) ev
theorem backI_bd {now keep ev : Int} (h : now ≤ 9223372036854775807) : 0 ≤ backI now keep ev ∧ backI now keep ev ≤ 9223372036854775807 := by
  unfold backI
  split
  · omega
  · have := flr_bd (t := now - keep) (e := ev) (by omega) (by omega)
    omega
set_option maxHeartbeats 1000000 in
theorem back_any (now keep ev : Int) (w : World) (hn : -9223372036854775808 ≤ now ∧ now ≤ 9223372036854775807) (hk : -9223372036854775808 ≤ keep ∧ keep ≤ 9223372036854775807) (he : -9223372036854775808 ≤ ev ∧ ev ≤ 9223372036854775807) :
    Calls Tryz.prog 120 #[.int .i64 now, .int .i64 keep, .int .i64 ev] w fun x w' => x = .returned (.int .i64 (backI now keep ev)) ∧ w = w' := by
  by_cases h1 : now < 0
  · have HF := Lib.hid (show backI now keep ev = 0 from if_pos (.inl h1))
    go_enter Tryz.func120, Tryz.ntmps120
    go_wp2
    go_ret
    exact ⟨ret_int HF.out.symm, rfl⟩
  · have hd1 : decide (now < 0) = false := decide_eq_false h1
    by_cases h2 : keep < 0
    · have HF := Lib.hid (show backI now keep ev = 0 from if_pos (.inr (.inl h2)))
      go_enter Tryz.func120, Tryz.ntmps120
      go_wp2
      go_ret
      exact ⟨ret_int HF.out.symm, rfl⟩
    · have hd2 : decide (keep < 0) = false := decide_eq_false h2
      by_cases h3 : ev < 1
      · have HF := Lib.hid (show backI now keep ev = 0 from if_pos (.inr (.inr (.inl h3))))
        go_enter Tryz.func120, Tryz.ntmps120
        go_wp2
        go_ret
        exact ⟨ret_int HF.out.symm, rfl⟩
      · have hd3 : decide (ev < 1) = false := decide_eq_false h3
        by_cases h4 : now < keep
        · have HF := Lib.hid (show backI now keep ev = 0 from if_pos (.inr (.inr (.inr h4))))
          go_enter Tryz.func120, Tryz.ntmps120
          go_wp2_with fail
          refine (floor_low (now - keep) ev _ ⟨by omega, by omega⟩ ⟨by omega, he.2⟩).mono ?_
          rintro e w1 ⟨z, rfl, hz, hz2, rfl⟩
          have HM := Lib.hid (show max z 0 = 0 from by omega)
          go_wp2
          go_ret
          exact ⟨ret_int (by rw [HF.out]; exact HM.out), rfl⟩
        · have HF := Lib.hid (show backI now keep ev = flr (now - keep) ev from if_neg (by omega))
          have hb := flr_bd (t := now - keep) (e := ev) (by omega) (by omega)
          have HM := Lib.hid (show max (flr (now - keep) ev) 0 = flr (now - keep) ev from by omega)
          clear hb
          go_enter Tryz.func120, Tryz.ntmps120
          go_wp2_with fail
          refine (floor_any (now - keep) ev _ ⟨by omega, by omega⟩ ⟨by omega, he.2⟩).mono ?_
          rintro e w1 ⟨rfl, rfl⟩
          go_wp2
          go_ret
          exact ⟨ret_int (by rw [HF.out]; exact HM.out), rfl⟩
end Go.Proofs.YtcglbbabfkbcbadGreat
/- The package reach: Of, is, From, Start, Cover. -/
namespace Go.Proofs.YtcglbbabfkbcbadGreat
open Go.ChangeShapes Go.WideShapes Go.ChangeAt Go.RowKit Go.Deep

theorem bd_i64' {z : Int} (h : (Lit.int .i64 z).wf = true) : -9223372036854775808 ≤ z ∧ z ≤ 9223372036854775807 := by
  have : IntKind.i64.min = -9223372036854775808 ∧ IntKind.i64.max = 9223372036854775807 := by decide
  simpa [Lit.wf, this.1, this.2] using h
/-- How far back tiers reach. -/
structure Rch where
  now : Int
  nm : ByteArray
  ts : List Ti
  fs : List Int
abbrev rchV (now : Int) (nm : ByteArray) (A : Option Addr) (n c : Nat) (B : Option Addr) (m d : Nat) : Value := .agg #[.int .i64 now, .string nm, .slice A n c, .slice B m d]
/-- It lies in memory, reached by these slices. -/
structure RchAt (w : World) (A : Option Addr) (n : Nat) (B : Option Addr) (m : Nat) (r : Rch) : Prop where
  ts : Tis w A n r.ts
  fs : Ints w .i64 B m r.fs
  now : -9223372036854775808 ≤ r.now ∧ r.now ≤ 9223372036854775807
theorem RchAt.below {w w' : World} {A : Option Addr} {n : Nat} {B : Option Addr} {m : Nat} {r : Rch} (h : RchAt w A n B m r) (hb : Below w.heap.size w w') : RchAt w' A n B m r := ⟨h.ts.below hb, h.fs.below hb, h.now⟩
def isB (n : Nat) (i : Int) : Bool := decide (0 ≤ i ∧ i < n)
theorem isB_nat {n i : Nat} (h : i < n) : isB n i = true := decide_eq_true (by omega)
/-- How many ticks the buckets of the tier behind have. -/
def Rch.nextEv (r : Rch) (i : Nat) : Int := ((r.ts[min (i + 1) (r.ts.length - 1)]?).map Ti.ev).getD 0
/-- How far back tier i reaches. -/
def Rch.from_ (r : Rch) (i : Nat) : Int :=
  match r.ts[i]? with
  | none => 0
  | some t => match r.fs[i]? with
    | none => backI r.now t.kp (r.nextEv i)
    | some f => max (backI r.now t.kp (r.nextEv i)) f
def Rch.fromI (r : Rch) (i : Int) : Int := if isB r.ts.length i = true then r.from_ i.toNat else 0
def Rch.start (r : Rch) (i t : Int) : Int := if isB r.ts.length i = true ∧ 0 ≤ t then flrE t ((r.ts[i.toNat]?).map Ti.ev |>.getD 0) else 0
def Rch.has (r : Rch) (i t : Int) : Bool := isB r.ts.length i && decide (0 ≤ t) && decide (r.fromI i ≤ r.start i t)
set_option maxHeartbeats 1000000 in
theorem isR_any (now : Int) (nm : ByteArray) (A : Option Addr) (n c : Nat) (B : Option Addr) (m d : Nat) (i : Int) (w : World) :
    Calls Tryz.prog 105 #[rchV now nm A n c B m d, .int .i64 i] w fun e w' => e = .returned (.bool (isB n i)) ∧ Below w.heap.size w w' := by
  by_cases h0 : 0 ≤ i
  · have HF := Lib.hid (show isB n i = decide (i < n) from by unfold isB; simp [h0])
    go_enter Tryz.func105, Tryz.ntmps105
    go_wp2
    go_ret
    exact ⟨ret_bool HF.out.symm, (Below.refl _ _).alloc (Nat.le_refl _) _⟩
  · have HF := Lib.hid (show isB n i = false from decide_eq_false (by omega))
    have hd : decide (0 ≤ i) = false := decide_eq_false h0
    go_enter Tryz.func105, Tryz.ntmps105
    go_wp2
    go_ret
    exact ⟨ret_bool HF.out.symm, (Below.refl _ _).alloc (Nat.le_refl _) _⟩
set_option maxRecDepth 100000 in
set_option maxHeartbeats 4000000 in
theorem from_out (A : Option Addr) (n c : Nat) (B : Option Addr) (m d : Nat) (r : Rch) (i : Int) (w : World) (hi : isB n i = false) :
    Calls Tryz.prog 88 #[rchV r.now r.nm A n c B m d, .int .i64 i] w fun e w' => e = .returned (.int .i64 0) ∧ Below w.heap.size w w' := by
  have HI := Lib.hid hi
  clear hi
  go_enter Tryz.func88, Tryz.ntmps88
  go_wp2_with fail
  refine (isR_any _ _ _ _ _ _ _ _ i _).mono ?_
  rw [HI.out]
  rintro e w1 ⟨rfl, hb⟩
  go_wp2
  go_ret
  exact ⟨rfl, ((Below.refl _ w).alloc (Nat.le_refl _) _).trans (hb.mono (by simp))⟩
set_option maxRecDepth 100000 in
set_option maxHeartbeats 4000000 in
theorem from_in (A : Option Addr) (n c : Nat) (B : Option Addr) (m d : Nat) (r : Rch) (i : Nat) (w : World) (h : RchAt w A n B m r) (hn : n ≤ 1000000) (hi : i < n) :
    Calls Tryz.prog 88 #[rchV r.now r.nm A n c B m d, .int .i64 i] w fun e w' => e = .returned (.int .i64 (r.from_ i)) ∧ Below w.heap.size w w' := by
  have HI := Lib.hid (isB_nat hi)
  have hln := h.ts.len
  have hlm := h.fs.len
  have K : i < r.ts.length := by rw [hln]; exact hi
  obtain ⟨j, hj⟩ : ∃ j, j = min (i + 1) (r.ts.length - 1) := ⟨_, rfl⟩
  have K2 : j < r.ts.length := by omega
  have HBK := Lib.hid (show r.nextEv i = (r.ts[j]'K2).ev from by unfold Rch.nextEv; rw [← hj, List.getElem?_eq_getElem K2]; rfl)
  have HFM := Lib.hid (show ∀ z, r.fs[i]? = none → r.from_ i = backI r.now (r.ts[i]'K).kp (r.ts[j]'K2).ev ∨ z = (0 : Int) from fun z hz => .inl (by
    unfold Rch.from_; rw [List.getElem?_eq_getElem K, hz, ← HBK.out]))
  have HFS := Lib.hid (show ∀ f, r.fs[i]? = some f → r.from_ i = max (backI r.now (r.ts[i]'K).kp (r.ts[j]'K2).ev) f from fun f hf => by
    unfold Rch.from_; rw [List.getElem?_eq_getElem K, hf, ← HBK.out])
  have e3 : min ((i : Int) + 1) ((n : Int) - 1) = (j : Int) := by omega
  have HE3 := Lib.hid e3
  have hjn : j < n := by omega
  clear hj e3
  have hb0 : Below w.heap.size w (w.alloc (.cells #[.int .i64 r.now, .string r.nm, .slice A n c, .slice B m d] 46)) := (Below.refl _ w).alloc (Nat.le_refl _) _
  have b0 := Bx.new w 46 #[.int .i64 r.now, .string r.nm, .slice A n c, .slice B m d]
  go_enter Tryz.func88, Tryz.ntmps88
  go_wp2_with fail
  refine (isR_any _ _ _ _ _ _ _ _ (i : Int) _).mono ?_
  rw [HI.out]
  rintro e w1 ⟨rfl, hb⟩
  have hb1 := hb0.trans (hb.mono hb0.size)
  have p := b0.below hb
  have q0 := p.at_ 0 rfl
  have q2 := p.at_ 2 rfl
  have q3 := p.at_ 3 rfl
  obtain ⟨b, off, rfl, hbl, X⟩ := (h.ts.below hb1).get K
  obtain ⟨b', off', e', _, Y⟩ := (h.ts.below hb1).get K2
  cases e'
  have x2 := X.c2
  have y1 := Y.c1
  have hok := h.ts.ok _ (List.getElem_mem K)
  have hok2 := h.ts.ok _ (List.getElem_mem K2)
  have hbk := backI_bd (now := r.now) (keep := (r.ts[i]'K).kp) (ev := (r.ts[j]'K2).ev) h.now.2
  have hB := fun W => back_any r.now (r.ts[i]'K).kp (r.ts[j]'K2).ev W h.now hok.kp hok2.ev
  have hbw := hb1
  have HFF := Lib.hid (h.fs.below hb1)
  have hfw := Lib.hid h.fs.wf
  clear h b0 p hb hb0 X Y hok hok2
  generalize (r.ts[i]'K) = x at *
  generalize (r.ts[j]'K2) = y at *
  obtain ⟨z, hz⟩ : ∃ z, backI r.now x.kp y.ev = z := ⟨_, rfl⟩
  rw [hz] at hB hbk HFM HFS
  have HZ := Lib.hid hz
  clear hz
  have g0 : (0 : Int) ≤ (i : Int) := by omega
  have g1 : (i : Int) < (n : Int) := by omega
  have g2 : (0 : Int) ≤ (j : Int) := by omega
  have g3 : (j : Int) < (n : Int) := by omega
  have e1 : IntKind.i64.wrap ((i : Int) + 1) = (i : Int) + 1 := IntWalk.i64_in _ (by omega)
  have e2 : IntKind.i64.wrap ((n : Int) - 1) = (n : Int) - 1 := IntWalk.i64_in _ (by omega)
  have e3 := HE3.out
  go_wp2_with fail
  go_quiet ((go_at_call 120; exact Calls.quiet_of_same ((hB _).mono fun _ _ ⟨h1, h2⟩ => ⟨h1, h2.symm⟩)))
  clear e1 e2 e3 HE3 x2 y1 hB
  have hdn := below_drewN (Below.refl w1.heap.size w1) nq
  have s3 := (hdn.cell (p := ⟨w.heap.size, 3, none⟩) (World.block_lt_of_cell? _ _ q3)).trans q3
  have s2 := (hdn.cell (p := ⟨w.heap.size, 2, none⟩) (World.block_lt_of_cell? _ _ q2)).trans q2
  have hbd := hbw.trans (hdn.mono hbw.size)
  have HG := Lib.hid (HFF.out.below hdn)
  clear q0 q2 q3 hdn hbw HFF
  generalize w1.drewN nq = wd at *
  have hmm := HG.out.n_le
  unfold maxLen at hmm
  by_cases him : i < m
  · have KF : i < r.fs.length := by rw [hlm]; exact him
    obtain ⟨bf, of, rfl, _, f0⟩ := HG.out.get KF
    have hff := bd_i64' (hfw.out _ (List.getElem_mem KF))
    have HR := Lib.hid (HFS.out _ (List.getElem?_eq_getElem KF))
    generalize (r.fs[i]'KF) = f at *
    have g4 : (i : Int) < (m : Int) := by omega
    go_wp2
    go_ret
    exact ⟨ret_int (by rw [HR.out]), hbd⟩
  · have HR := Lib.hid (show r.from_ i = z from by
      rcases HFM.out 1 (List.getElem?_eq_none (by rw [hlm]; omega)) with h1 | h1
      · exact h1
      · omega)
    have hd : decide ((i : Int) < (m : Int)) = false := decide_eq_false (by omega)
    go_wp2
    go_ret
    exact ⟨ret_int HR.out.symm, hbd⟩
end Go.Proofs.YtcglbbabfkbcbadGreat
