/-
  The package reach: Of, is, From, Start, Cover.
-/
import Derived.Test.YtcmlfepmgiikpaaPol
import Derived.Test.YtcmlfepmgiikpaaBack
import Derived.Deep.QuietTactic
import Derived.BigQuiet
import Derived.IntWalk
namespace Go.Proofs.Ytcmlfepmgiikpaa
open Go.ChangeShapes Go.WideShapes Go.ChangeAt Go.RowKit Go.Deep

theorem bd_i64' {z : Int} (h : (Lit.int .i64 z).wf = true) : -9223372036854775808 ≤ z ∧ z ≤ 9223372036854775807 := by
  have : IntKind.i64.min = -9223372036854775808 ∧ IntKind.i64.max = 9223372036854775807 := by decide
  simpa [Lit.wf, this.1, this.2] using h
/-- How far back tiers reach. -/
structure Rch where
  now : Int
  nm : ByteArray
  ts : List Ti
  fs : List Int
abbrev rchV (now : Int) (nm : ByteArray) (A : Option Addr) (n c : Nat) (B : Option Addr) (m d : Nat) : Value := .agg #[.int .i64 now, .string nm, .slice A n c, .slice B m d]
/-- It lies in memory, reached by these slices. -/
structure RchAt (w : World) (A : Option Addr) (n : Nat) (B : Option Addr) (m : Nat) (r : Rch) : Prop where
  ts : Tis w A n r.ts
  fs : Ints w .i64 B m r.fs
  now : -9223372036854775808 ≤ r.now ∧ r.now ≤ 9223372036854775807
theorem RchAt.below {w w' : World} {A : Option Addr} {n : Nat} {B : Option Addr} {m : Nat} {r : Rch} (h : RchAt w A n B m r) (hb : Below w.heap.size w w') : RchAt w' A n B m r := ⟨h.ts.below hb, h.fs.below hb, h.now⟩
def isB (n : Nat) (i : Int) : Bool := decide (0 ≤ i ∧ i < n)
theorem isB_nat {n i : Nat} (h : i < n) : isB n i = true := decide_eq_true (by omega)
/-- How many ticks the buckets of the tier behind have. -/
def Rch.nextEv (r : Rch) (i : Nat) : Int := ((r.ts[min (i + 1) (r.ts.length - 1)]?).map Ti.ev).getD 0
/-- How far back tier i reaches. -/
def Rch.from_ (r : Rch) (i : Nat) : Int :=
  match r.ts[i]? with
  | none => 0
  | some t => match r.fs[i]? with
    | none => backI r.now t.kp (r.nextEv i)
    | some f => max (backI r.now t.kp (r.nextEv i)) f
def Rch.fromI (r : Rch) (i : Int) : Int := if isB r.ts.length i = true then r.from_ i.toNat else 0
def Rch.start (r : Rch) (i t : Int) : Int := if isB r.ts.length i = true ∧ 0 ≤ t then flrE t ((r.ts[i.toNat]?).map Ti.ev |>.getD 0) else 0
def Rch.has (r : Rch) (i t : Int) : Bool := isB r.ts.length i && decide (0 ≤ t) && decide (r.fromI i ≤ r.start i t)
set_option maxHeartbeats 1000000 in
theorem isR_any (now : Int) (nm : ByteArray) (A : Option Addr) (n c : Nat) (B : Option Addr) (m d : Nat) (i : Int) (w : World) :
    Calls Try.prog 22 #[rchV now nm A n c B m d, .int .i64 i] w fun e w' => e = .returned (.bool (isB n i)) ∧ Below w.heap.size w w' := by
  by_cases h0 : 0 ≤ i
  · have HF := Lib.hid (show isB n i = decide (i < n) from by unfold isB; simp [h0])
    go_enter Try.func22, Try.ntmps22
    go_wp2
    go_ret
    exact ⟨ret_bool HF.out.symm, (Below.refl _ _).alloc (Nat.le_refl _) _⟩
  · have HF := Lib.hid (show isB n i = false from decide_eq_false (by omega))
    have hd : decide (0 ≤ i) = false := decide_eq_false h0
    go_enter Try.func22, Try.ntmps22
    go_wp2
    go_ret
    exact ⟨ret_bool HF.out.symm, (Below.refl _ _).alloc (Nat.le_refl _) _⟩
set_option maxRecDepth 100000 in
set_option maxHeartbeats 4000000 in
theorem from_out (A : Option Addr) (n c : Nat) (B : Option Addr) (m d : Nat) (r : Rch) (i : Int) (w : World) (hi : isB n i = false) :
    Calls Try.prog 24 #[rchV r.now r.nm A n c B m d, .int .i64 i] w fun e w' => e = .returned (.int .i64 0) ∧ Below w.heap.size w w' := by
  have HI := Lib.hid hi
  clear hi
  go_enter Try.func24, Try.ntmps24
  go_wp2_with fail
  refine (isR_any _ _ _ _ _ _ _ _ i _).mono ?_
  rw [HI.out]
  rintro e w1 ⟨rfl, hb⟩
  go_wp2
  go_ret
  exact ⟨rfl, ((Below.refl _ w).alloc (Nat.le_refl _) _).trans (hb.mono (by simp))⟩
set_option maxRecDepth 100000 in
set_option maxHeartbeats 4000000 in
theorem from_in (A : Option Addr) (n c : Nat) (B : Option Addr) (m d : Nat) (r : Rch) (i : Nat) (w : World) (h : RchAt w A n B m r) (hn : n ≤ 1000000) (hi : i < n) :
    Calls Try.prog 24 #[rchV r.now r.nm A n c B m d, .int .i64 i] w fun e w' => e = .returned (.int .i64 (r.from_ i)) ∧ Below w.heap.size w w' := by
  have HI := Lib.hid (isB_nat hi)
  have hln := h.ts.len
  have hlm := h.fs.len
  have K : i < r.ts.length := by rw [hln]; exact hi
  obtain ⟨j, hj⟩ : ∃ j, j = min (i + 1) (r.ts.length - 1) := ⟨_, rfl⟩
  have K2 : j < r.ts.length := by omega
  have HBK := Lib.hid (show r.nextEv i = (r.ts[j]'K2).ev from by unfold Rch.nextEv; rw [← hj, List.getElem?_eq_getElem K2]; rfl)
  have HFM := Lib.hid (show ∀ z, r.fs[i]? = none → r.from_ i = backI r.now (r.ts[i]'K).kp (r.ts[j]'K2).ev ∨ z = (0 : Int) from fun z hz => .inl (by
    unfold Rch.from_; rw [List.getElem?_eq_getElem K, hz, ← HBK.out]))
  have HFS := Lib.hid (show ∀ f, r.fs[i]? = some f → r.from_ i = max (backI r.now (r.ts[i]'K).kp (r.ts[j]'K2).ev) f from fun f hf => by
    unfold Rch.from_; rw [List.getElem?_eq_getElem K, hf, ← HBK.out])
  have e3 : min ((i : Int) + 1) ((n : Int) - 1) = (j : Int) := by omega
  have HE3 := Lib.hid e3
  have hjn : j < n := by omega
  clear hj e3
  have hb0 : Below w.heap.size w (w.alloc (.cells #[.int .i64 r.now, .string r.nm, .slice A n c, .slice B m d] 36)) := (Below.refl _ w).alloc (Nat.le_refl _) _
  have b0 := Bx.new w 36 #[.int .i64 r.now, .string r.nm, .slice A n c, .slice B m d]
  go_enter Try.func24, Try.ntmps24
  go_wp2_with fail
  refine (isR_any _ _ _ _ _ _ _ _ (i : Int) _).mono ?_
  rw [HI.out]
  rintro e w1 ⟨rfl, hb⟩
  have hb1 := hb0.trans (hb.mono hb0.size)
  have p := b0.below hb
  have q0 := p.at_ 0 rfl
  have q2 := p.at_ 2 rfl
  have q3 := p.at_ 3 rfl
  obtain ⟨b, off, rfl, hbl, X⟩ := (h.ts.below hb1).get K
  obtain ⟨b', off', e', _, Y⟩ := (h.ts.below hb1).get K2
  cases e'
  have x2 := X.c2
  have y1 := Y.c1
  have hok := h.ts.ok _ (List.getElem_mem K)
  have hok2 := h.ts.ok _ (List.getElem_mem K2)
  have hbk := backI_bd (now := r.now) (keep := (r.ts[i]'K).kp) (ev := (r.ts[j]'K2).ev) h.now.2
  have hB := fun W => back_any r.now (r.ts[i]'K).kp (r.ts[j]'K2).ev W h.now hok.kp hok2.ev
  have hbw := hb1
  have HFF := Lib.hid (h.fs.below hb1)
  have hfw := Lib.hid h.fs.wf
  clear h b0 p hb hb0 X Y hok hok2
  generalize (r.ts[i]'K) = x at *
  generalize (r.ts[j]'K2) = y at *
  obtain ⟨z, hz⟩ : ∃ z, backI r.now x.kp y.ev = z := ⟨_, rfl⟩
  rw [hz] at hB hbk HFM HFS
  have HZ := Lib.hid hz
  clear hz
  have g0 : (0 : Int) ≤ (i : Int) := by omega
  have g1 : (i : Int) < (n : Int) := by omega
  have g2 : (0 : Int) ≤ (j : Int) := by omega
  have g3 : (j : Int) < (n : Int) := by omega
  have e1 : IntKind.i64.wrap ((i : Int) + 1) = (i : Int) + 1 := IntWalk.i64_in _ (by omega)
  have e2 : IntKind.i64.wrap ((n : Int) - 1) = (n : Int) - 1 := IntWalk.i64_in _ (by omega)
  have e3 := HE3.out
  go_wp2_with fail
  go_quiet ((go_at_call 34; exact Calls.quiet_of_same ((hB _).mono fun _ _ ⟨h1, h2⟩ => ⟨h1, h2.symm⟩)))
  clear e1 e2 e3 HE3 x2 y1 hB
  have hdn := below_drewN (Below.refl w1.heap.size w1) nq
  have s3 := (hdn.cell (p := ⟨w.heap.size, 3, none⟩) (World.block_lt_of_cell? _ _ q3)).trans q3
  have s2 := (hdn.cell (p := ⟨w.heap.size, 2, none⟩) (World.block_lt_of_cell? _ _ q2)).trans q2
  have hbd := hbw.trans (hdn.mono hbw.size)
  have HG := Lib.hid (HFF.out.below hdn)
  clear q0 q2 q3 hdn hbw HFF
  generalize w1.drewN nq = wd at *
  have hmm := HG.out.n_le
  unfold maxLen at hmm
  by_cases him : i < m
  · have KF : i < r.fs.length := by rw [hlm]; exact him
    obtain ⟨bf, of, rfl, _, f0⟩ := HG.out.get KF
    have hff := bd_i64' (hfw.out _ (List.getElem_mem KF))
    have HR := Lib.hid (HFS.out _ (List.getElem?_eq_getElem KF))
    generalize (r.fs[i]'KF) = f at *
    have g4 : (i : Int) < (m : Int) := by omega
    go_wp2
    go_ret
    exact ⟨ret_int (by rw [HR.out]), hbd⟩
  · have HR := Lib.hid (show r.from_ i = z from by
      rcases HFM.out 1 (List.getElem?_eq_none (by rw [hlm]; omega)) with h1 | h1
      · exact h1
      · omega)
    have hd : decide ((i : Int) < (m : Int)) = false := decide_eq_false (by omega)
    go_wp2
    go_ret
    exact ⟨ret_int HR.out.symm, hbd⟩
end Go.Proofs.Ytcmlfepmgiikpaa
