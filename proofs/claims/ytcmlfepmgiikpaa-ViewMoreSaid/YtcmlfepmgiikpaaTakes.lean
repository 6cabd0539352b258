/-
  reach.Reach.Takes, at a sample of time 0: it says 1 (no argument) just where the name is none.
-/
import Derived.Test.YtcmlfepmgiikpaaPut
import Derived.Test.YtcmlfepmgiikpaaBox
import Derived.Deep.RegionHeld3
namespace Go.Proofs.Ytcmlfepmgiikpaa
open Go.ChangeShapes Go.WideShapes Go.ChangeAt Go.RowKit Go.Deep Go.Maps

/-- The reach's box and the sample's, while calls go on. -/
structure TkS (w' : World) (g : Nat) (now : Int) (nm : ByteArray) (A : Option Addr) (n c : Nat) (B : Option Addr) (m d : Nat) (s : ByteArray) : Prop where
  br : Bx w' g 36 #[.int .i64 now, .string nm, .slice A n c, .slice B m d]
  bs : Bx w' (g + 1) 28 #[.string s, .int .i64 0, .int .i64 0]
section
variable {w w' : World} {g : Nat} {now : Int} {nm : ByteArray} {A : Option Addr} {n c : Nat} {B : Option Addr} {m d : Nat} {s : ByteArray}
theorem TkS.below (h : TkS w g now nm A n c B m d s) (hb : Below w.heap.size w w') : TkS w' g now nm A n c B m d s := ⟨h.br.below hb, h.bs.below hb⟩
theorem TkS.full (h : TkS w g now nm A n c B m d s) : w.cell? ⟨g, 0, none⟩ = some (.int .i64 now) ∧ w.cell? ⟨g, 1, none⟩ = some (.string nm) ∧ w.cell? ⟨g, 2, none⟩ = some (.slice A n c) ∧ w.cell? ⟨g, 3, none⟩ = some (.slice B m d) ∧ w.cell? ⟨g + 1, 0, none⟩ = some (.string s) ∧ w.cell? ⟨g + 1, 1, none⟩ = some (.int .i64 0) ∧ w.cell? ⟨g + 1, 2, none⟩ = some (.int .i64 0) :=
  ⟨h.br.at_ 0 rfl, h.br.at_ 1 rfl, h.br.at_ 2 rfl, h.br.at_ 3 rfl, h.bs.at_ 0 rfl, h.bs.at_ 1 rfl, h.bs.at_ 2 rfl⟩
end
set_option maxRecDepth 100000 in
set_option maxHeartbeats 4000000 in
theorem takes_any (A : Option Addr) (n c : Nat) (B : Option Addr) (m d : Nat) (r : Rch) (s : ByteArray) (w : World) (h : RchAt w A n B m r) (hn : n ≤ 1000000) (hs : s.size ≤ maxLen) :
    Calls Try.prog 16 #[rchV r.now r.nm A n c B m d, .agg #[.string s, .int .i64 0, .int .i64 0]] w fun e w' => ∃ z : Int, e = .returned (.int .i64 z) ∧ (z == 1) = !validB s.toList ∧ Below w.heap.size w w' := by
  have hb0 : Below w.heap.size w ((w.alloc (.cells #[.int .i64 r.now, .string r.nm, .slice A n c, .slice B m d] 36)).alloc (.cells #[.string s, .int .i64 0, .int .i64 0] 28)) := ((Below.refl _ w).alloc (Nat.le_refl _) _).alloc (by simp) _
  have B0 := (Bx.new w 36 #[.int .i64 r.now, .string r.nm, .slice A n c, .slice B m d]).alloc (.cells #[.string s, .int .i64 0, .int .i64 0] 28)
  have B1 := Bx.new (w.alloc (.cells #[.int .i64 r.now, .string r.nm, .slice A n c, .slice B m d] 36)) 28 #[.string s, .int .i64 0, .int .i64 0]
  rw [show (w.alloc (.cells #[.int .i64 r.now, .string r.nm, .slice A n c, .slice B m d] 36)).heap.size = w.heap.size + 1 from by simp] at B1
  have T0 : TkS _ w.heap.size r.now r.nm A n c B m d s := ⟨B0, B1⟩
  have HR := Lib.hid (h.below hb0)
  have HSN := Lib.hid hs
  have hnow := h.now
  clear B0 B1 h hs
  obtain ⟨p0, p1, p2, p3, p4, p5, p6⟩ := T0.full
  have hba := (Below.refl ((w.alloc (.cells #[.int .i64 r.now, .string r.nm, .slice A n c, .slice B m d] 36)).alloc (.cells #[.string s, .int .i64 0, .int .i64 0] 28)).heap.size ((w.alloc (.cells #[.int .i64 r.now, .string r.nm, .slice A n c, .slice B m d] 36)).alloc (.cells #[.string s, .int .i64 0, .int .i64 0] 28))).alloc (Nat.le_refl _) (.cells #[.string s] 9)
  have T1 := T0.below hba
  have HB1 := Lib.hid (hb0.trans (hba.mono hb0.size))
  have HR1 := Lib.hid (HR.out.below hba)
  have hv := valid_one s ((w.alloc (.cells #[.int .i64 r.now, .string r.nm, .slice A n c, .slice B m d] 36)).alloc (.cells #[.string s, .int .i64 0, .int .i64 0] 28)) HSN.out 1
  rw [show ((w.alloc (.cells #[.int .i64 r.now, .string r.nm, .slice A n c, .slice B m d] 36)).alloc (.cells #[.string s, .int .i64 0, .int .i64 0] 28)).heap.size = w.heap.size + 1 + 1 from by simp] at hv
  have HV := Lib.hid hv
  clear hv
  clear hb0 hba T0 HR
  go_enter Try.func16, Try.ntmps16
  go_wp2_with fail
  refine HV.out.mono ?_
  rintro e w1 ⟨rfl, hw1⟩
  clear HV
  generalize ((w.alloc (.cells #[.int .i64 r.now, .string r.nm, .slice A n c, .slice B m d] 36)).alloc (.cells #[.string s, .int .i64 0, .int .i64 0] 28)).alloc (.cells #[.string s] 9) = w2 at *
  subst hw1
  clear p0 p1 p2 p3 p4 p5 p6
  obtain ⟨p0, p1, p2, p3, p4, p5, p6⟩ := T1.full
  generalize hvv : validB s.toList = v
  cases v
  · go_wp2
    go_ret
    exact ⟨1, rfl, by rw [hvv]; rfl, HB1.out⟩
  · by_cases h0 : r.now < 0
    · go_wp2
      go_ret
      exact ⟨25, rfl, by rw [hvv]; rfl, HB1.out⟩
    · have hd : decide (r.now < 0) = false := decide_eq_false h0
      by_cases hn0 : n = 0
      · subst hn0
        have HI := Lib.hid (show isB 0 0 = false from rfl)
        have HIS := Lib.hid (isR_any r.now r.nm A 0 c B m d 0 w2.drew)
        rw [HI.out] at HIS
        go_upto_region 5 with fail
        first
          | (go_region_with ((go_at_call 22; refine HIS.out.mono ?_; rintro e wq ⟨rfl, hbq⟩)))
          | fail
        all_goals
          go_wp2
          go_ret
          exact ⟨24, rfl, by rw [hvv]; rfl, HB1.out.trans (((Below.refl _ _).drew.trans (hbq.mono (by simp))).mono HB1.out.size)⟩
      · have HI := Lib.hid (show isB n 0 = true from decide_eq_true (by omega))
        have HIS := Lib.hid (fun W => isR_any r.now r.nm A n c B m d 0 W)
        rw [HI.out] at HIS
        have HFR := Lib.hid (fun W (hW : Below w2.heap.size w2 W) => from_any A n c B m d r 0 W (HR1.out.below hW) hn)
        obtain ⟨f, hf⟩ : ∃ f, r.fromI 0 = f := ⟨_, rfl⟩
        rw [hf] at HFR
        clear hf
        have HK := Lib.hid (fun W (hW : Below w2.heap.size w2 W) => (⟨hW, (T1.below hW).full⟩ : Below w2.heap.size w2 W ∧ _))
        have HK0 := HK.out _ ((Below.refl w2.heap.size w2).drew)
        have hfin : ∀ z : Int, z = 24 ∨ z = 0 → (z == 1) = !validB s.toList := fun z hz => by
          rw [hvv]
          rcases hz with rfl | rfl <;> rfl
        have HFIN := Lib.hid hfin
        clear hfin
        by_cases hf0 : 0 < f
        all_goals
          first
            | (have hd2 : decide (0 < f) = false := decide_eq_false hf0)
            | skip
          go_upto_region 5 with fail
          go_region_held3 (fun w' => Below w2.heap.size w2 w' ∧ w'.cell? ⟨w.heap.size, 0, none⟩ = some (.int .i64 r.now) ∧ w'.cell? ⟨w.heap.size, 1, none⟩ = some (.string r.nm) ∧ w'.cell? ⟨w.heap.size, 2, none⟩ = some (.slice A n c) ∧ w'.cell? ⟨w.heap.size, 3, none⟩ = some (.slice B m d) ∧ w'.cell? ⟨w.heap.size + 1, 0, none⟩ = some (.string s) ∧ w'.cell? ⟨w.heap.size + 1, 1, none⟩ = some (.int .i64 0) ∧ w'.cell? ⟨w.heap.size + 1, 2, none⟩ = some (.int .i64 0))
            (first
              | assumption
              | exact HK0
              | (go_split_ands; exact HK.out _ (by assumption))
              | (go_split_ands; exact HK.out _ (Below.trans (by assumption) (Below.mono hbq (Below.size (by assumption)))))
              | (go_split_ands; exact HK.out _ (Below.trans (by assumption) (Below.mono hbt (Below.size (by assumption))))))
            (first
              | (go_at_call 22; refine (HIS.out _).mono ?_; rintro e wq ⟨rfl, hbq⟩)
              | (go_at_call 24; go_split_ands; refine (HFR.out _ (by assumption)).mono ?_; rintro e wt ⟨rfl, hbt⟩))
          go_split_ands
          have hbz : Below w2.heap.size w2 wt := by assumption
          go_wp2
          go_ret
          first
            | exact ⟨24, rfl, HFIN.out _ (.inl rfl), HB1.out.trans (hbz.mono HB1.out.size)⟩
            | exact ⟨0, rfl, HFIN.out _ (.inr rfl), HB1.out.trans (hbz.mono HB1.out.size)⟩
end Go.Proofs.Ytcmlfepmgiikpaa
