/-
  NameTells, the walk.
-/
import Derived.Test.YtcglbbabfkbcbaaNameRef
import Derived.Test.YtcglbbabfkbcbaaRefName5
import Derived.Test.YtcglbbabfkbcbaaShort
import Derived.Test.YtcglbbabfkbcbaaAlive5
import Derived.Test.YtcglbbabfkbcbaaRecord
import Derived.Test.YtcglbbabfkbcbaaSlCut
import Derived.Test.YtcglbbabfkbcbaaBookApartTexts
import Derived.Test.YtcglbbabfkbcbaaBookTextsA
import Derived.Test.YtcglbbabfkbcbaaBookTextsL
import Derived.Deep.DeepCutAuto
import Derived.Deep.RegionHeld3
import Derived.Deep.RegionLaw
namespace Go.Proofs.Ytcglbbabfkbcbaa
open Go.RowKit Go.Deep

theorem quiet_eq {P : Program} {f : FuncId} {args : Array Value} {w : World} {n : Nat} {v : Value}
    (h : Calls P f args (w.drewN n) fun e w' => e = .returned v ∧ w.drewN n = w') : Calls P f args (w.drewN n) fun e w'' => e = .returned v ∧ ∃ m, w'' = w.drewN m :=
  h.mono fun _ _ ⟨he, hm⟩ => ⟨he, n, hm.symm⟩
abbrev recV (r : Rec) : Value := .agg #[.string r.name, .int .i64 r.start, .int .i64 r.count, .int .i64 r.hi, .int .u64 r.lo, .int .i64 r.min, .int .i64 r.max]
abbrev recA (r : Rec) : Array Value := #[.string r.name, .int .i64 r.start, .int .i64 r.count, .int .i64 r.hi, .int .u64 r.lo, .int .i64 r.min, .int .i64 r.max]
/-- The two records in their boxes. -/
structure NtS (w0 w : World) (r s : Rec) : Prop where
  a : Bx w w0.heap.size 27 (recA r)
  b : Bx w (w0.heap.size + 1) 27 (recA s)
  bel : Below w0.heap.size w0 w
theorem NtS.below {w0 w w' : World} {r s : Rec} (h : NtS w0 w r s) (hb : Below w.heap.size w w') : NtS w0 w' r s := ⟨h.a.below hb, h.b.below hb, h.bel.trans (hb.mono h.bel.size)⟩
def goodB (ss : List ByteArray) : Bool := ss.all fun s => validB s.toList
theorem good_snoc (ss : List ByteArray) (s : ByteArray) : goodB (ss ++ [s]) = (goodB ss && validB s.toList) := by simp [goodB]
def noFs : Array Value := #[.slice none 0 0, .slice none 0 0, .slice none 0 0, .slice none 0 0, .slice none 0 0, .slice none 0 0, .slice none 0 0, .slice none 0 0, .slice none 0 0, .slice none 0 0, .slice none 0 0, .slice none 0 0, .slice none 0 0, .slice none 0 0, .slice none 0 0, .slice none 0 0]
theorem noFs_at (i : Nat) (h : i < 16) : noFs[i]? = some (.slice none 0 0) := by
  have : i = 0 ∨ i = 1 ∨ i = 2 ∨ i = 3 ∨ i = 4 ∨ i = 5 ∨ i = 6 ∨ i = 7 ∨ i = 8 ∨ i = 9 ∨ i = 10 ∨ i = 11 ∨ i = 12 ∨ i = 13 ∨ i = 14 ∨ i = 15 := by omega
  rcases this with rfl | rfl | rfl | rfl | rfl | rfl | rfl | rfl | rfl | rfl | rfl | rfl | rfl | rfl | rfl | rfl <;> rfl
theorem bkTexts_nil (w : World) (B : Nat) : BkTexts w B noFs [] := ⟨⟨.slice none 0 0, [], .slice none 0 0, [], rfl, rfl, World.ownsRow_nil _ _ _ _, World.ownsRow_nil _ _ _ _, .inl rfl, Kept.nil _ _, Kept.nil _ _⟩, by simp⟩
theorem lentT_strs {w : World} {B g cap n : Nat} {ss : List ByteArray} (h : w.ownsRow B 9 1 (.slice (some ⟨g, 0, none⟩) (n + 1) cap) (n + 1) ((ss ++ [lentTexts]).flatMap encTexts)) (hl : ss.length = n) (hn : n ≤ 60) (hz : ∀ s ∈ ss, s.size ≤ maxLen) : Strs w (some ⟨g, 0, none⟩) n ss := by
  obtain ⟨A', c', e, hs⟩ := bk_sl h
  cases e
  rw [List.flatMap_append] at hs
  exact viewTexts hs.left hl (by omega) hz
theorem ordT_strs {w : World} {B n : Nat} {A : Option Addr} {c : Nat} {ss : List ByteArray} (h : w.ownsRow B 9 1 (.slice A n c) n (ss.map Value.string)) (hl : ss.length = n) (hn : n ≤ 60) (hz : ∀ s ∈ ss, s.size ≤ maxLen) : Strs w A n ss := by
  obtain ⟨A', c', e, hs⟩ := bk_sl h
  cases e
  exact ⟨hs, hl, by unfold maxLen; omega, hz⟩
/-- What stands throughout a round. -/
structure NtR (w0 wr w : World) (r s : Rec) (bk g cap n B m : Nat) (fs : Array Value) (v : Value) (ss os : List ByteArray) : Prop where
  s : NtS w0 w r s
  k : Bx w bk 44 fs
  br : Below wr.heap.size wr w
  row : w.ownsRow B 9 1 (.slice (some ⟨g, 0, none⟩) (n + 1) cap) (n + 1) ((ss ++ [lentTexts]).flatMap encTexts)
  ord : w.ownsRow w0.heap.size 9 1 v m (os.map Value.string)
theorem NtR.below {w0 wr w w' : World} {r s : Rec} {bk g cap n B m : Nat} {fs : Array Value} {v : Value} {ss os : List ByteArray} (h : NtR w0 wr w r s bk g cap n B m fs v ss os) (hb : Below w.heap.size w w') : NtR w0 wr w' r s bk g cap n B m fs v ss os :=
  ⟨h.s.below hb, h.k.below hb, h.br.trans (hb.mono h.br.size), bk_below h.row hb, bk_below h.ord hb⟩
theorem Stands.bx {B g b : Nat} {T T' : TypeId} {w w' : World} {cs : Array Value} (h : Stands B g T w w') (hx : Bx w b T' cs) (hg : b ≠ g) (hne : T' ≠ T) : Bx w' b T' cs :=
  ⟨(h.block b hx.lt hg (.inr fun c fr e => by rw [hx.blk] at e; injection e with e; injection e with _ e; exact hne e)).trans hx.blk⟩
theorem NtS.apart {w0 W W' : World} {B : Nat} {r s : Rec} (hb : Below B W W') (h : NtS w0 W r s) (h1 : w0.heap.size + 2 ≤ B) : NtS w0 W' r s :=
  ⟨⟨(hb.block _ (by omega)).trans h.a.blk⟩, ⟨(hb.block _ (by omega)).trans h.b.blk⟩, h.bel.trans (hb.mono (by omega))⟩
theorem NtS.full {w0 w : World} {r s : Rec} (h : NtS w0 w r s) : NtS w0 w r s ∧ (w.cell? ⟨w0.heap.size, 0, none⟩ = some (.string r.name) ∧ w.cell? ⟨w0.heap.size, 1, none⟩ = some (.int .i64 r.start) ∧ w.cell? ⟨w0.heap.size, 2, none⟩ = some (.int .i64 r.count) ∧ w.cell? ⟨w0.heap.size, 3, none⟩ = some (.int .i64 r.hi) ∧ w.cell? ⟨w0.heap.size, 4, none⟩ = some (.int .u64 r.lo) ∧ w.cell? ⟨w0.heap.size, 5, none⟩ = some (.int .i64 r.min) ∧ w.cell? ⟨w0.heap.size, 6, none⟩ = some (.int .i64 r.max)) ∧
    w.cell? ⟨w0.heap.size + 1, 0, none⟩ = some (.string s.name) ∧ w.cell? ⟨w0.heap.size + 1, 1, none⟩ = some (.int .i64 s.start) ∧ w.cell? ⟨w0.heap.size + 1, 2, none⟩ = some (.int .i64 s.count) ∧ w.cell? ⟨w0.heap.size + 1, 3, none⟩ = some (.int .i64 s.hi) ∧ w.cell? ⟨w0.heap.size + 1, 4, none⟩ = some (.int .u64 s.lo) ∧ w.cell? ⟨w0.heap.size + 1, 5, none⟩ = some (.int .i64 s.min) ∧ w.cell? ⟨w0.heap.size + 1, 6, none⟩ = some (.int .i64 s.max) :=
  ⟨h, ⟨h.a.at_ 0 rfl, h.a.at_ 1 rfl, h.a.at_ 2 rfl, h.a.at_ 3 rfl, h.a.at_ 4 rfl, h.a.at_ 5 rfl, h.a.at_ 6 rfl⟩, h.b.at_ 0 rfl, h.b.at_ 1 rfl, h.b.at_ 2 rfl, h.b.at_ 3 rfl, h.b.at_ 4 rfl, h.b.at_ 5 rfl, h.b.at_ 6 rfl⟩
theorem NtS.next {w0 w w' : World} {r s : Rec} (hb : Below w.heap.size w w') (h : NtS w0 w r s) : NtS w0 w' r s := h.below hb
theorem nt_keep {W0 W W' : World} {a : Addr} {v : Option Value} (hc : ∀ W, Below W0.heap.size W0 W → W.cell? a = v) (h : Below W0.heap.size W0 W) (hb : Below W.heap.size W W') : Below W0.heap.size W0 W' ∧ W'.cell? a = v :=
  have hh := h.trans (hb.mono h.size)
  ⟨hh, hc _ hh⟩
theorem nt_grown {W0 W W' : World} {a : Addr} {v : Option Value} {row : Option Nat} (hc : ∀ W, Below W0.heap.size W0 W → W.cell? a = v) (h : Below W0.heap.size W0 W) (hg : W.grownBy W' row) (hr : ∀ q, row = some q → W0.heap.size ≤ q) : Below W0.heap.size W0 W' ∧ W'.cell? a = v :=
  have hh := h.grown hg h.size hr
  ⟨hh, hc _ hh⟩
theorem nt_cut {w : World} {B0 : Nat} {A : Option Addr} {m c t : Nat} {os : List ByteArray} (h : w.ownsRow B0 9 1 (.slice A m c) m (os.map Value.string)) (ht : t ≤ m) :
    ∃ A1 A2 c2, (∀ W, (Instr.slice 22 (.slice A m c) none (some (.int .i64 t)) none).run Try.prog W = .ok (.slice A1 t c) W) ∧ (∀ W, (Instr.slice 22 (.slice A m c) (some (.int .i64 t)) none none).run Try.prog W = .ok (.slice A2 (m - t) c2) W) ∧
      Sl w A1 ((os.take t).map Value.string) ∧ Sl w A2 ((os.drop t).map Value.string) := by
  have hz : ∀ W, (sizeOf (Try.prog.elem 22)).run Try.prog W = .ok 1 W := fun W => by kernel_rfl
  obtain ⟨A', c', e, hs⟩ := bk_sl h
  cases e
  have hl : os.length = m := by have := h.1; simpa using this
  have hmc : m ≤ c := by
    rcases h.2 with ⟨e, h0⟩ | ⟨g, cap, cur, e, _, _, h1, _⟩
    · cases e; omega
    · cases e; exact h1
  refine ⟨A, if c = t then A else A.map (·.add (t * 1)), c - t, fun W => run_slice_to (W := W) Try.underlying22 1 (hz W) A m c t (by omega), fun W => run_slice_from (W := W) Try.underlying22 1 (hz W) A m c t ht, ?_, ?_⟩
  · rw [List.map_take]; exact hs.takeC t
  · rw [List.map_drop, Nat.mul_one]; exact hs.dropC t (c = t) (fun e => by rw [List.length_map]; omega)
theorem str_one (l : List ByteArray) : ∀ u ∈ l.map Value.string, u.oneCell' = true := by
  intro u hu
  obtain ⟨x, _, rfl⟩ := List.mem_map.1 hu
  rfl
set_option maxRecDepth 100000 in
set_option maxHeartbeats 4000000 in
theorem walk_nameTells0 {w : World} (A : Option Addr) (n cap : Nat) (ss : List ByteArray) (hs : Strs w A n ss) (sh : Int) (r s : Rec) :
    Calls Try.prog 3 #[.slice A n cap, .int .i64 sh, recV r, recV s] w fun e w' => e = .returned (.bool true) ∧ Below w.heap.size w w' := by
  have hb0 : Below w.heap.size w ((w.alloc (.cells (recA r) 27)).alloc (.cells (recA s) 27)) := ((Below.refl _ _).alloc (Nat.le_refl _) _).alloc (by simp) _
  have ba := (Bx.new w 27 (recA r)).alloc (.cells (recA s) 27)
  have bb := Bx.new (w.alloc (.cells (recA r) 27)) 27 (recA s)
  rw [World.size_alloc] at bb
  have S0 : NtS w _ r s := ⟨ba, bb, hb0⟩
  have HS := Lib.hid hs
  have hn := hs.n_le
  obtain ⟨i0, hi0, hz0, hz1, hz2⟩ := info_parts info_Texts
  have HI := Lib.hid hi0
  have HI0 := Lib.hid hz0
  have HI1 := Lib.hid hz1
  have HI2 := Lib.hid hz2
  clear hi0 hz0 hz1 hz2
  unfold maxLen at hn
  clear ba bb hs
  go_enter Try.func3, Try.ntmps3
  go_upto_region 1 with fail
  generalize (w.alloc (.cells (recA r) 27)).alloc (.cells (recA s) 27) = w1 at *
  have HA := Lib.hid (fun W (hW : Below w.heap.size w W) => alive_any W)
  have hsz1 := hb0.size
  go_wp2_with fail
  refine (short_any _ _ _ _ _ _ _ (HS.out.below hb0) (by omega)).mono ?_
  rintro e w2 ⟨b, rfl, hsh, hb2⟩
  have S2 := S0.below hb2
  have a0 := S2.a.at_ 0 rfl
  have b0 := S2.b.at_ 0 rfl
  clear S0 hb0 hsz1 hb2
  cases b
  · clear hsh
    go_wp2_with (go_at_call 5; refine (HA.out _ S2.bel).mono ?_; rintro e w3 ⟨rfl, hb3⟩)
    go_ret
    exact ⟨rfl, S2.bel.trans (hb3.mono S2.bel.size)⟩
  have hn60 : n ≤ 60 := by have := (hsh rfl).1; omega
  clear hsh
  by_cases h3 : 300 < r.name.size
  · go_wp2_with (go_at_call 5; refine (HA.out _ S2.bel).mono ?_; rintro e w3 ⟨rfl, hb3⟩)
    go_ret
    exact ⟨rfl, S2.bel.trans (hb3.mono S2.bel.size)⟩
  by_cases h4 : 300 < s.name.size
  · go_wp2_with (go_at_call 5; refine (HA.out _ S2.bel).mono ?_; rintro e w3 ⟨rfl, hb3⟩)
    go_ret
    exact ⟨rfl, S2.bel.trans (hb3.mono S2.bel.size)⟩
  go_wp2_with fail
  have HRL := Lib.hid hn60
  clear a0 b0 h3 h4
  go_loopw [9, 10, 11, 12] (fun gd v i _ wr => ∃ (j : Nat) (os : List ByteArray), j ≤ n ∧ i = .int .i64 j ∧ gd = .bool (goodB (ss.take j)) ∧ wr.ownsRow w.heap.size 9 1 v os.length (os.map Value.string) ∧ Hid (OrdTo (ss.take j) os) ∧ Hid (∀ x ∈ os, x.size ≤ maxLen) ∧ NtS w wr r s) (fun _ _ i _ _ => n - (intOf i).toNat)
  case atStart => exact ⟨0, [], Nat.zero_le _, rfl, rfl, World.ownsRow_nil _ _ _ _, Lib.hid OrdTo.nil, Lib.hid (by simp), S2⟩
  case round =>
    clear S2
    obtain ⟨j, os, hj, rfl, rfl, hrow, HO, HZ, S⟩ := hrel
    by_cases hlt : j < n
    · have K : j < ss.length := by rw [HS.out.len]; exact hlt
      have HTN := Lib.hid (show ss.take (j + 1) = ss.take j ++ [ss[j]'K] from List.take_succ_eq_append_getElem K)
      have HG := Lib.hid (show goodB (ss.take (j + 1)) = (goodB (ss.take j) && validB (ss[j]'K).toList) from by rw [HTN.out, good_snoc])
      have hxs := HS.out.size _ (List.getElem_mem K)
      obtain ⟨b1, o1, rfl, hb1, y1⟩ := (HS.out.below S.bel).get K
      generalize ss[j]'K = x at *
      generalize goodB (ss.take j) = gb at *
      have g0 : (0 : Int) ≤ (j : Int) := by omega
      have g1 : (j : Int) < (n : Int) := by omega
      have HN1 := Lib.hid (fun W => refName_any x W hxs)
      have HH1 := Lib.hid (fun W => hash_any x W hxs)
      have HH2 := Lib.hid (fun W => refHash_any x W hxs)
      have HH3 := Lib.hid (fun W => shard_any x sh W hxs)
      have HH4 := Lib.hid (fun W => refShard_any x sh W hxs)
      generalize hash x.toList = hx at *
      generalize shardI x.toList sh = hk at *
      have q1 : (hx != hx) = false := bne_self_eq_false _
      have q2 : (hk != hk) = false := bne_self_eq_false _
      obtain ⟨gc, hgc⟩ : ∃ gc, goodB (ss.take (j + 1)) = gc := ⟨_, rfl⟩
      have HGC := Lib.hid hgc
      rw [hgc] at HG
      obtain ⟨vb, hvb⟩ : ∃ vb, validB x.toList = vb := ⟨_, rfl⟩
      rw [hvb] at HG HN1
      clear hgc hvb
      have HR := Lib.hid hrow
      clear hrow
      go_upto_region 8 with fail
      go_cut [9] (fun g wx => g = .bool gc ∧ wx = wr)
      case first =>
        cases gb
        · have hg := HG.out
          simp only [Bool.false_and] at hg
          subst hg
          go_wp2_with fail
          go_meet
          exact ⟨rfl, rfl⟩
        · have hg := HG.out
          simp only [Bool.true_and] at hg
          subst hg
          go_wp2_with (go_at_call 6; refine (HN1.out _).mono ?_; rintro e w3 ⟨rfl, rfl⟩)
          go_meet
          exact ⟨rfl, rfl⟩
      case rest =>
        obtain ⟨rfl, hwx⟩ := hcut
        have hwx2 := hwx.symm
        clear hwx
        subst hwx2
        clear HN1
        go_upto_region 9 with fail
        go_quiet ((first
          | (go_at_call 7; exact quiet_eq (HH1.out _))
          | (go_at_call 8; exact quiet_eq (HH2.out _))
          | (go_at_call 9; exact quiet_eq (HH3.out _))
          | (go_at_call 10; exact quiet_eq (HH4.out _))))
        clear HH1 HH2 HH3 HH4 q1 q2
        have hol : os.length ≤ 60 := by
          have h1 := HO.out.len
          have h2 := List.length_take_le j ss
          have h3 := HRL.out
          omega
        obtain ⟨B, c2, e2, hst0⟩ := own_strs HR.out HZ.out (by unfold maxLen; omega)
        subst e2
        have hdq := below_drewN (Below.refl wr.heap.size wr) nq
        have SQ := S.below hdq
        have HRQ := Lib.hid (bk_below HR.out hdq)
        have hst := hst0.below hdq
        have y1q := (hdq.cell (p := ⟨b1, o1 + j, none⟩) hb1).trans y1
        have hb1q : b1 < (wr.drewN nq).heap.size := Nat.lt_of_lt_of_le hb1 hdq.size
        clear S HR hdq hst0 y1 hb1
        generalize wr.drewN nq = w4 at *
        obtain ⟨m, hm⟩ : ∃ m, m = os.length := ⟨_, rfl⟩
        have HM := Lib.hid hm
        rw [← hm] at hst hol HRQ ⊢
        clear hm
        go_wp2_with fail
        go_loopw [12] (fun k wk => ∃ t : Nat, t ≤ m ∧ k = .int .i64 t ∧ Hid (∀ i (h : i < os.length), i < t → Op.bytesLess (os[i]).toList x.toList = true) ∧ Below w4.heap.size w4 wk) (fun k _ => m - (intOf k).toNat)
        case atStart => exact ⟨0, Nat.zero_le _, rfl, Lib.hid (fun i _ h => absurd h (by omega)), Below.refl _ _⟩
        case round =>
          obtain ⟨t, ht, rfl, HL, hbk⟩ := hrel
          have t0 : (0 : Int) ≤ (t : Int) := by omega
          have z1 := (hbk.cell (p := ⟨b1, o1 + j, none⟩) hb1q).trans y1q
          by_cases hp : t < m
          · have K2 : t < os.length := by rw [← HM.out]; exact hp
            obtain ⟨b2, o2, rfl, _, y2⟩ := (hst.below hbk).get K2
            have t1 : (t : Int) < (m : Int) := by omega
            have t2 : ((t : Int) == (m : Int)) = false := beq_eq_false_iff_ne.2 (by omega)
            by_cases hl : Op.bytesLess (os[t]'K2).toList x.toList = true
            · have HL2 := Lib.hid (show ∀ i (h : i < os.length), i < t + 1 → Op.bytesLess (os[i]).toList x.toList = true from fun i h hi => by
                by_cases e : i = t
                · subst e; exact hl
                · exact HL.out i h (by omega))
              generalize (os[t]'K2) = o at *
              go_wp2_with fail
              go_quiet (fail)
              go_wp2_with fail
              go_roundw
              case rel => exact ⟨t + 1, by omega, by go_num, HL2, below_drewN hbk _⟩
              case measure => simp [intOf]; omega
            · have hl' : Op.bytesLess (os[t]'K2).toList x.toList = false := by simpa using hl
              by_cases he : os[t]'K2 = x
              · have HO2 := Lib.hid (show OrdTo (ss.take (j + 1)) os from by
                  rw [HTN.out]
                  exact HO.out.same (List.mem_map.2 ⟨_, List.getElem_mem K2, by rw [he]⟩))
                have e3 : ((os[t]'K2).toList == x.toList) = true := by rw [he]; exact beq_self_eq_true _
                generalize (os[t]'K2) = o at *
                clear hl he
                go_wp2_with fail
                go_quiet (fail)
                go_wp2_with fail
                go_quiet (fail)
                go_wp2_with fail
                go_roundw
                case rel => exact ⟨j + 1, os, by omega, by go_num, by rw [HGC.out], HM.out ▸ bk_below HRQ.out (below_drewN hbk _), HO2, HZ, SQ.below (below_drewN hbk _)⟩
                case measure => simp [intOf]; omega
              · have e3 : ((os[t]'K2).toList == x.toList) = false := beq_eq_false_iff_ne.2 fun e => he (list_eq' e)
                have HO2 := Lib.hid (show OrdTo (ss.take (j + 1)) (os.take t ++ [x] ++ os.drop t) from by
                  rw [HTN.out]
                  exact HO.out.put (by rw [← HM.out]; exact ht) (fun i hi => HL.out i (by rw [← HM.out]; omega) hi) (fun _ => ⟨hl', fun e => he (list_eq' e)⟩))
                generalize (os[t]'K2) = o at *
                clear hl he
                go_wp2_with fail
                go_quiet (fail)
                obtain ⟨q1, hq1⟩ : ∃ q1, q1 = nq := ⟨_, rfl⟩
                rw [← hq1]
                clear hq1
                go_wp2_with fail
                go_quiet (fail)
                obtain ⟨W0, hW0⟩ : ∃ W0, W0 = World.drewN (World.drewN wr q1) nq := ⟨_, rfl⟩
                rw [← hW0]
                have hb00 : Below w4.heap.size w4 W0 := by rw [hW0]; exact below_drewN (below_drewN hbk _) _
                clear hW0 hbk z1 y2 e3 hl' HL
                go_upto_region 15 with fail
                have b1W : b1 < W0.heap.size := Nat.lt_of_lt_of_le hb1q hb00.size
                have HCW := Lib.hid (show ∀ W, Below W0.heap.size W0 W → W.cell? ⟨b1, o1 + j, none⟩ = some (.string x) from fun W hW => (hW.cell (p := ⟨b1, o1 + j, none⟩) b1W).trans ((hb00.cell (p := ⟨b1, o1 + j, none⟩) hb1q).trans y1q))
                obtain ⟨A1, A2, c3, kT, kF, hs1, hs2⟩ := nt_cut (bk_below HRQ.out hb00) ht
                have HS1 := Lib.hid hs1
                have HS2 := Lib.hid hs2
                have HLT := Lib.hid (show ((os.take t).map Value.string).length = t * 1 from by rw [List.length_map, List.length_take, ← HM.out]; omega)
                have HLD := Lib.hid (show ((os.drop t).map Value.string).length = (m - t) * 1 from by rw [List.length_map, List.length_drop, ← HM.out]; omega)
                have hD := (Below.refl W0.heap.size W0).drew
                have hD2 := And.intro hD (HCW.out _ hD)
                have HBB := Lib.hid hb00
                have ht60 : t ≤ 60 := by omega
                have hmt : t + 1 + (m - t) ≤ 61 := by omega
                clear hs1 hs2 y1q hb1q hst hb00
                go_region_held3 (fun w' => Below W0.heap.size W0 w' ∧ w'.cell? ⟨b1, o1 + j, none⟩ = some (.string x))
                  (first
                    | assumption
                    | exact hD2
                    | (go_split_ands; exact And.intro (by assumption) (by assumption))
                    | (go_split_ands; exact nt_keep HCW.out (by assumption) ((Below.refl _ _).alloc (Nat.le_refl _) _))
                    | (go_split_ands; exact nt_keep HCW.out (by assumption) hba)
                    | (go_split_ands; exact nt_grown HCW.out (by assumption) hgc HOC.out)
                    | (go_split_ands; exact nt_grown HCW.out (by assumption) hgb HOB.out))
                  (first
                    | (go_split_ands
                       refine step_append_sl _ rfl _ _ 22 rfl W0.heap.size 9 i0 _ 1 16 Try.underlying22 HI.out HI0.out HI1.out HI2.out rfl (by decide) (.slice none 0 0) 0 [] rfl (World.ownsRow_nil _ _ _ _) A1 t c2 ((os.take t).map Value.string) rfl HLT.out (HS1.out.below (by assumption)) (str_one _) (by unfold maxLen; omega) (by omega) (Below.size (by assumption)) ?_
                       intro va wa howna hga _
                       obtain ⟨Aa, ca, ea, hsa⟩ := bk_sl howna
                       rw [Nat.zero_add, List.nil_append] at howna
                       rw [Nat.zero_add] at ea
                       subst ea
                       have hba := (Below.refl _ _).grown hga (Nat.le_refl _) (fun k hk => by cases hk)
                       have HWA := Lib.hid howna
                       have HOB := Lib.hid (fun q hq => (HWA.out.lt q hq).1)
                       clear howna hsa)
                    | (go_split_ands
                       refine step_append_sl _ rfl _ _ 22 rfl W0.heap.size 9 i0 _ 1 16 Try.underlying22 HI.out HI0.out HI1.out HI2.out rfl (by decide) (.slice Aa t ca) t ((os.take t).map Value.string) rfl (bk_below HWA.out ((Below.refl _ _).alloc (Nat.le_refl _) _)) (some ⟨wa.heap.size, 0, none⟩) 1 1 [.string x] rfl rfl (Sl.new wa 9 wa.heap.size [.string x] #[.string x] rfl rfl) (str_one [x]) (by unfold maxLen; omega) (by omega) (Below.size (by assumption)) ?_
                       intro vb wb hownb hgb _
                       obtain ⟨Ab, cb, eb, hsb⟩ := bk_sl hownb
                       subst eb
                       have HWB := Lib.hid hownb
                       have HOC := Lib.hid (fun q hq => (HWB.out.lt q hq).1)
                       clear hownb hsb)
                    | (go_split_ands
                       refine step_append_sl _ rfl _ _ 22 rfl W0.heap.size 9 i0 _ 1 16 Try.underlying22 HI.out HI0.out HI1.out HI2.out rfl (by decide) (.slice Aa t ca) t ((os.take t).map Value.string) rfl HWA.out (some ⟨W0.heap.size, 0, none⟩) 1 1 [.string x] rfl rfl ((Sl.new W0.drew 9 W0.heap.size [.string x] #[.string x] rfl rfl).below hba) (str_one [x]) (by unfold maxLen; omega) (by omega) (Below.size (by assumption)) ?_
                       intro vb wb hownb hgb _
                       obtain ⟨Ab, cb, eb, hsb⟩ := bk_sl hownb
                       subst eb
                       have HWB := Lib.hid hownb
                       have HOC := Lib.hid (fun q hq => (HWB.out.lt q hq).1)
                       clear hownb hsb)
                    | (go_split_ands
                       refine step_append_sl _ rfl _ _ 22 rfl W0.heap.size 9 i0 _ 1 16 Try.underlying22 HI.out HI0.out HI1.out HI2.out rfl (by decide) (.slice Ab (t + 1) cb) (t + 1) _ rfl HWB.out A2 (m - t) c3 ((os.drop t).map Value.string) rfl HLD.out (HS2.out.below (by assumption)) (str_one _) (by unfold maxLen; omega) (by omega) (Below.size (by assumption)) ?_
                       intro vc wc hownc hgc _
                       obtain ⟨Ac, cc, ec, hsc⟩ := bk_sl hownc
                       subst ec
                       have HWC := Lib.hid hownc
                       clear hownc hsc))
                all_goals
                  go_split_ands
                  have hbw : Below W0.heap.size W0 wc := by assumption
                  have HX := Lib.hid (HBB.out.trans (hbw.mono HBB.out.size))
                  have hlen : (os.take t ++ [x] ++ os.drop t).length = t + 1 + (m - t) := by simp [← HM.out]; omega
                  have hos : wc.ownsRow w.heap.size 9 1 (.slice Ac (t + 1 + (m - t)) cc) (os.take t ++ [x] ++ os.drop t).length ((os.take t ++ [x] ++ os.drop t).map Value.string) := by
                    rw [hlen, List.map_append, List.map_append]
                    exact bk_low HWC.out (Nat.le_trans SQ.bel.size HBB.out.size)
                  have HOS := Lib.hid hos
                  have HZ2 := Lib.hid (show ∀ y ∈ os.take t ++ [x] ++ os.drop t, y.size ≤ maxLen from fun y hy => by
                    rcases List.mem_append.1 hy with h | h
                    · rcases List.mem_append.1 h with h | h
                      · exact HZ.out y (List.mem_of_mem_take h)
                      · rw [List.mem_singleton.1 h]; exact hxs
                    · exact HZ.out y (List.mem_of_mem_drop h))
                  clear hlen hos hbw hD kT kF
                  go_wp2_with fail
                  go_roundw
                  case rel => exact ⟨j + 1, _, by omega, by go_num, by rw [HGC.out], HOS.out, HO2, HZ2, SQ.below HX.out⟩
                  case measure => simp [intOf]; omega
          · have hte : t = m := by omega
            have t1 : decide ((t : Int) < (m : Int)) = false := decide_eq_false (by omega)
            have t2 : ((t : Int) == (m : Int)) = true := beq_iff_eq.2 (by omega)
            have HO2 := Lib.hid (show OrdTo (ss.take (j + 1)) (os.take t ++ [x] ++ os.drop t) from by
              rw [HTN.out]
              exact HO.out.put (by rw [← HM.out]; exact ht) (fun i hi => HL.out i (by rw [← HM.out]; omega) hi) (fun hh => absurd hh (by rw [← HM.out]; omega)))
            clear hte
            go_wp2_with fail
            go_quiet (fail)
            obtain ⟨q1, hq1⟩ : ∃ q1, q1 = nq := ⟨_, rfl⟩
            rw [← hq1]
            clear hq1
            go_wp2_with fail
            go_quiet (fail)
            obtain ⟨W0, hW0⟩ : ∃ W0, W0 = World.drewN (World.drewN wr q1) nq := ⟨_, rfl⟩
            rw [← hW0]
            have hb00 : Below w4.heap.size w4 W0 := by rw [hW0]; exact below_drewN (below_drewN hbk _) _
            clear hW0 hbk z1 HL
            go_upto_region 15 with fail
            have b1W : b1 < W0.heap.size := Nat.lt_of_lt_of_le hb1q hb00.size
            have HCW := Lib.hid (show ∀ W, Below W0.heap.size W0 W → W.cell? ⟨b1, o1 + j, none⟩ = some (.string x) from fun W hW => (hW.cell (p := ⟨b1, o1 + j, none⟩) b1W).trans ((hb00.cell (p := ⟨b1, o1 + j, none⟩) hb1q).trans y1q))
            obtain ⟨A1, A2, c3, kT, kF, hs1, hs2⟩ := nt_cut (bk_below HRQ.out hb00) ht
            have HS1 := Lib.hid hs1
            have HS2 := Lib.hid hs2
            have HLT := Lib.hid (show ((os.take t).map Value.string).length = t * 1 from by rw [List.length_map, List.length_take, ← HM.out]; omega)
            have HLD := Lib.hid (show ((os.drop t).map Value.string).length = (m - t) * 1 from by rw [List.length_map, List.length_drop, ← HM.out]; omega)
            have hD := (Below.refl W0.heap.size W0).drew
            have hD2 := And.intro hD (HCW.out _ hD)
            have HBB := Lib.hid hb00
            have ht60 : t ≤ 60 := by omega
            have hmt : t + 1 + (m - t) ≤ 61 := by omega
            clear hs1 hs2 y1q hb1q hst hb00
            go_region_held3 (fun w' => Below W0.heap.size W0 w' ∧ w'.cell? ⟨b1, o1 + j, none⟩ = some (.string x))
              (first
                | assumption
                | exact hD2
                | (go_split_ands; exact And.intro (by assumption) (by assumption))
                | (go_split_ands; exact nt_keep HCW.out (by assumption) ((Below.refl _ _).alloc (Nat.le_refl _) _))
                | (go_split_ands; exact nt_keep HCW.out (by assumption) hba)
                | (go_split_ands; exact nt_grown HCW.out (by assumption) hgc HOC.out)
                | (go_split_ands; exact nt_grown HCW.out (by assumption) hgb HOB.out))
              (first
                | (go_split_ands
                   refine step_append_sl _ rfl _ _ 22 rfl W0.heap.size 9 i0 _ 1 16 Try.underlying22 HI.out HI0.out HI1.out HI2.out rfl (by decide) (.slice none 0 0) 0 [] rfl (World.ownsRow_nil _ _ _ _) A1 t c2 ((os.take t).map Value.string) rfl HLT.out (HS1.out.below (by assumption)) (str_one _) (by unfold maxLen; omega) (by omega) (Below.size (by assumption)) ?_
                   intro va wa howna hga _
                   obtain ⟨Aa, ca, ea, hsa⟩ := bk_sl howna
                   rw [Nat.zero_add, List.nil_append] at howna
                   rw [Nat.zero_add] at ea
                   subst ea
                   have hba := (Below.refl _ _).grown hga (Nat.le_refl _) (fun k hk => by cases hk)
                   have HWA := Lib.hid howna
                   have HOB := Lib.hid (fun q hq => (HWA.out.lt q hq).1)
                   clear howna hsa)
                | (go_split_ands
                   refine step_append_sl _ rfl _ _ 22 rfl W0.heap.size 9 i0 _ 1 16 Try.underlying22 HI.out HI0.out HI1.out HI2.out rfl (by decide) (.slice Aa t ca) t ((os.take t).map Value.string) rfl (bk_below HWA.out ((Below.refl _ _).alloc (Nat.le_refl _) _)) (some ⟨wa.heap.size, 0, none⟩) 1 1 [.string x] rfl rfl (Sl.new wa 9 wa.heap.size [.string x] #[.string x] rfl rfl) (str_one [x]) (by unfold maxLen; omega) (by omega) (Below.size (by assumption)) ?_
                   intro vb wb hownb hgb _
                   obtain ⟨Ab, cb, eb, hsb⟩ := bk_sl hownb
                   subst eb
                   have HWB := Lib.hid hownb
                   have HOC := Lib.hid (fun q hq => (HWB.out.lt q hq).1)
                   clear hownb hsb)
                | (go_split_ands
                   refine step_append_sl _ rfl _ _ 22 rfl W0.heap.size 9 i0 _ 1 16 Try.underlying22 HI.out HI0.out HI1.out HI2.out rfl (by decide) (.slice Aa t ca) t ((os.take t).map Value.string) rfl HWA.out (some ⟨W0.heap.size, 0, none⟩) 1 1 [.string x] rfl rfl ((Sl.new W0.drew 9 W0.heap.size [.string x] #[.string x] rfl rfl).below hba) (str_one [x]) (by unfold maxLen; omega) (by omega) (Below.size (by assumption)) ?_
                   intro vb wb hownb hgb _
                   obtain ⟨Ab, cb, eb, hsb⟩ := bk_sl hownb
                   subst eb
                   have HWB := Lib.hid hownb
                   have HOC := Lib.hid (fun q hq => (HWB.out.lt q hq).1)
                   clear hownb hsb)
                | (go_split_ands
                   refine step_append_sl _ rfl _ _ 22 rfl W0.heap.size 9 i0 _ 1 16 Try.underlying22 HI.out HI0.out HI1.out HI2.out rfl (by decide) (.slice Ab (t + 1) cb) (t + 1) _ rfl HWB.out A2 (m - t) c3 ((os.drop t).map Value.string) rfl HLD.out (HS2.out.below (by assumption)) (str_one _) (by unfold maxLen; omega) (by omega) (Below.size (by assumption)) ?_
                   intro vc wc hownc hgc _
                   obtain ⟨Ac, cc, ec, hsc⟩ := bk_sl hownc
                   subst ec
                   have HWC := Lib.hid hownc
                   clear hownc hsc))
            all_goals
              go_split_ands
              have hbw : Below W0.heap.size W0 wc := by assumption
              have HX := Lib.hid (HBB.out.trans (hbw.mono HBB.out.size))
              have hlen : (os.take t ++ [x] ++ os.drop t).length = t + 1 + (m - t) := by simp [← HM.out]; omega
              have hos : wc.ownsRow w.heap.size 9 1 (.slice Ac (t + 1 + (m - t)) cc) (os.take t ++ [x] ++ os.drop t).length ((os.take t ++ [x] ++ os.drop t).map Value.string) := by
                rw [hlen, List.map_append, List.map_append]
                exact bk_low HWC.out (Nat.le_trans SQ.bel.size HBB.out.size)
              have HOS := Lib.hid hos
              have HZ2 := Lib.hid (show ∀ y ∈ os.take t ++ [x] ++ os.drop t, y.size ≤ maxLen from fun y hy => by
                rcases List.mem_append.1 hy with h | h
                · rcases List.mem_append.1 h with h | h
                  · exact HZ.out y (List.mem_of_mem_take h)
                  · rw [List.mem_singleton.1 h]; exact hxs
                · exact HZ.out y (List.mem_of_mem_drop h))
              clear hlen hos hbw hD kT kF
              go_wp2_with fail
              go_roundw
              case rel => exact ⟨j + 1, _, by omega, by go_num, by rw [HGC.out], HOS.out, HO2, HZ2, SQ.below HX.out⟩
              case measure => simp [intOf]; omega
    · have hjn : j = n := by omega
      subst hjn
      have gz : decide ((j : Int) < (j : Int)) = false := decide_eq_false (by omega)
      have hta : ss.take j = ss := List.take_of_length_le (by rw [HS.out.len]; omega)
      rw [hta] at HO ⊢
      have hord := HO.out.is
      subst hord
      clear hta HO
      have hba := (Below.refl wr.heap.size wr).alloc (Nat.le_refl _) (.cells noFs 44)
      have SA := S.below hba
      have KA := Bx.new wr 44 noFs
      have hrowA := bk_below hrow hba
      have hbkl : wr.heap.size < (wr.alloc (.cells noFs 44)).heap.size := by simp
      have hws := S.bel.size
      have hw2 : w.heap.size + 2 ≤ wr.heap.size := by have := S.b.lt; omega
      clear S hba hrow
      go_upto_region 17 with fail
      rw [show (.cells #[.slice none 0 0, .slice none 0 0, .slice none 0 0, .slice none 0 0, .slice none 0 0, .slice none 0 0, .slice none 0 0, .slice none 0 0, .slice none 0 0, .slice none 0 0, .slice none 0 0, .slice none 0 0, .slice none 0 0, .slice none 0 0, .slice none 0 0, .slice none 0 0] 44 : Obj) = .cells noFs 44 from rfl]
      obtain ⟨Wb, hWb⟩ : ∃ Wb, Wb = wr.alloc (.cells noFs 44) := ⟨_, rfl⟩
      rw [← hWb] at SA KA hrowA hbkl ⊢
      obtain ⟨bk, hbk⟩ : ∃ bk, bk = wr.heap.size := ⟨_, rfl⟩
      rw [← hbk] at KA hbkl hws hw2 ⊢
      clear hWb hbk
      obtain ⟨m, hm⟩ : ∃ m, m = (ordB ss).length := ⟨_, rfl⟩
      have HM := Lib.hid hm
      rw [← hm] at hrowA
      clear hm
      obtain ⟨Ao, co, eo, _⟩ := bk_sl hrowA
      subst eo
      obtain ⟨gd, hgd⟩ : ∃ gd, goodB ss = gd := ⟨_, rfl⟩
      rw [hgd]
      have HGD := Lib.hid hgd
      clear hgd
      have hgg : (gd != gd) = false := bne_self_eq_false _
      go_wp2_with fail
      go_loopw [14, 15, 16] (fun k _ _ wr => ∃ (q : Nat) (fs : Array Value) (ls : List (List ByteArray)), q ≤ 2 ∧ k = .int .i64 q ∧ NtS w wr r s ∧ Bx wr bk 44 fs ∧ wr.ownsRow w.heap.size 9 1 (.slice Ao m co) m ((ordB ss).map Value.string) ∧ BkTexts wr Wb.heap.size fs ls ∧ Hid (ls.length = q) ∧ Hid (∀ l ∈ ls, l.length ≤ 50000) ∧ Hid (∀ i, i < 16 → i ≠ 0 → i ≠ 1 → fs[i]? = some (.slice none 0 0)) ∧ Wb.heap.size ≤ wr.heap.size) (fun k _ _ _ => 2 - (intOf k).toNat)
      case atStart => exact ⟨0, noFs, [], by omega, rfl, SA, KA, hrowA, bkTexts_nil _ _, Lib.hid rfl, Lib.hid (by simp), Lib.hid (fun i h _ _ => noFs_at i h), Nat.le_refl _⟩
      case round =>
        clear SA KA hrowA
        obtain ⟨q, fs, ls, hq, rfl, S, K, hord, HK, HLS, HLF, HFS, hBw⟩ := hrel
        have hlen60 : m ≤ 60 := by have h1 := HM.out; have h2 := len_ordB ss; have h3 := order_len ss; have h4 := HS.out.len; omega
        by_cases hlt2 : q < 2
        · have q0 : (0 : Int) ≤ (q : Int) := by omega
          have q1 : (q : Int) < 2 := by omega
          have HSB := Lib.hid S.bel
          have HKK := Lib.hid HK
          clear HK
          have HZO := Lib.hid (size_ordB HS.out.size)
          have HNW := Lib.hid (order_len ss)
          go_upto_region 23 with (first
            | (go_at_call 11; refine (lentTexts_any _ j cap ss _ (by rw [flat_str]; exact (HS.out.below HSB.out).sl) HS.out.len (by omega)).mono ?_; rintro e w5 ⟨g, cap5, rfl, hrow, hb5⟩
               have R5 : NtR w wr w5 r s bk g cap5 j wr.heap.size m fs (.slice Ao m co) ss (ordB ss) := ⟨S.below hb5, K.below hb5, hb5, hrow, bk_below hord hb5⟩
               clear hrow)
            | (go_at_call 12; refine (order_any (some ⟨g, 0, none⟩) j cap5 ss _ (lentT_strs R5.row HS.out.len (by omega) HS.out.size) (by omega)).mono ?_; rintro e w6 ⟨v6, rfl, hown6, hb6⟩
               have R6 := R5.below hb6
               obtain ⟨A6, c6, e6, _⟩ := bk_sl hown6
               subst e6
               have hl6 : w6.ownsRow wr.heap.size 9 1 (.slice A6 (orderS ss).length c6) (ordB ss).length ((ordB ss).flatMap encTexts) := by
                 rw [flat_str, map_ordB, len_ordB]; exact bk_low hown6 R5.br.size
               have HADD := Lib.hid (addTexts_any bk Wb.heap.size fs ls (.slice A6 (orderS ss).length c6) (ordB ss) wr w6 HKK.out R6.br R6.k hl6 HZO.out (by rw [HLS.out]; omega) (by rw [← HM.out]; omega) hBw)
               clear hown6)
            | (go_at_call 13; refine HADD.out.mono ?_; rintro e w13 ⟨rfl, ⟨fs', K13, BK13, hfs⟩, hst⟩))
          have hsz13 := hst.size
          have hrs6 := R6.br.size
          have bel13 : Below w.heap.size w w13 := R6.s.bel.trans (hst.below (by omega) (by omega) R6.s.bel.size)
          have S13 : NtS w w13 r s := ⟨hst.bx R6.s.a (by omega) (by decide), hst.bx R6.s.b (by omega) (by decide), bel13⟩
          have O13 := hst.own R6.k R6.ord (by decide) (by decide)
          have L13 := hst.own R6.k R6.row (by decide) (by decide)
          have N13 := hst.own R6.k hl6 (by decide) (by decide)
          have T1 := Lib.hid (lentT_strs L13 HS.out.len (by omega) HS.out.size)
          have T2 := Lib.hid (ordT_strs O13 HM.out.symm hlen60 HZO.out)
          have T3 := Lib.hid (show Strs w13 A6 (orderS ss).length (ordB ss) from by
            rw [flat_str, len_ordB] at N13
            exact ordT_strs N13 (len_ordB ss) (by rw [← len_ordB, ← HM.out]; exact hlen60) HZO.out)
          have HT1 := Lib.hid (show decide (txt (ordB ss) = txt (ordB ss)) = true from decide_eq_true rfl)
          have HV13 := Lib.hid (fun W (hW : Below w13.heap.size w13 W) => valid_any (some ⟨g, 0, none⟩) j cap5 ss W (T1.out.n_le) T1.out.len T1.out.size (T1.out.below hW).hr)
          have HL13 := Lib.hid L13
          have HK13 := Lib.hid K13
          have HBK13 := Lib.hid BK13
          have HFS13 := Lib.hid hfs
          have HO13 := Lib.hid O13
          have HSS := Lib.hid S13
          have HJL := Lib.hid HS.out.len
          have hb13 := Below.refl w13.heap.size w13
          rw [show (ss.all fun s => validB s.toList) = gd from HGD.out] at HV13
          clear R5 R6 hb5 hb6 hst K13 BK13 hfs O13 L13 N13 S13 S K hord HADD hl6 bel13
          go_wp2_with (first
            | (go_at_call 14; refine (sameTexts_any A6 Ao _ m c6 co (ordB ss) (ordB ss) _ T3.out T2.out).mono ?_; rw [HT1.out]; rintro e w14 ⟨rfl, hb14⟩)
            | (go_at_call 15; refine (HV13.out _ hb14).mono ?_; rintro e w15 ⟨rfl, rfl⟩)
            | (go_at_call 16; refine (staysTexts_any g cap5 j _ cap A ss _ (bk_below HL13.out hb14) ((HS.out.below HSS.out.bel).below hb14) HJL.out HS.out.size (by omega)).mono ?_; rintro e w16 ⟨rfl, hb16⟩))
          have HB16 := Lib.hid (hb14.trans (hb16.mono hb14.size))
          go_roundw
          case rel =>
            exact ⟨q + 1, fs', ls ++ [ordB ss], by omega, by go_num, HSS.out.below HB16.out, HK13.out.below HB16.out, bk_below HO13.out HB16.out, HBK13.out.below HB16.out, Lib.hid (by rw [List.length_append, HLS.out]; rfl),
              Lib.hid (fun l hl => by
                rcases List.mem_append.1 hl with h1 | h1
                · exact HLF.out l h1
                · rw [List.mem_singleton.1 h1, ← HM.out]; omega), Lib.hid (fun i h1 h2 h3 => (HFS13.out i h2 h3).trans (HFS.out i h1 h2 h3)), by have := HB16.out.size; omega⟩
          case measure => simp [intOf]; omega
        · have hqe : q = 2 := by omega
          subst hqe
          have g2 : decide ((2 : Int) < 2) = false := decide_eq_false (by omega)
          have HAP := Lib.hid (fun W (hW : Below wr.heap.size wr W) => apartTexts_any bk Wb.heap.size fs ls W (K.below hW) (HK.below hW) (by rw [HLS.out]; decide) HLF.out (Nat.le_trans hBw hW.size) HFS.out)
          have HSB := Lib.hid S.bel
          have E0D := S.below (Below.refl _ _).drew
          have hBw2 : w.heap.size + 2 ≤ Wb.heap.size := by omega
          have HWD := Lib.hid ((Below.refl wr.heap.size wr).drew)
          have hwd : wr.heap.size = wr.drew.heap.size := by simp
          obtain ⟨ab, hab⟩ : ∃ ab, aheadB r.name.toList r.start s.name.toList s.start = ab := ⟨_, rfl⟩
          have HLE := Lib.hid (fun W => less_any r.name s.name r.start s.start (.int .i64 r.count) (.int .i64 r.hi) (.int .u64 r.lo) (.int .i64 r.min) (.int .i64 r.max) (.int .i64 s.count) (.int .i64 s.hi) (.int .u64 s.lo) (.int .i64 s.min) (.int .i64 s.max) W)
          have HRE := Lib.hid (fun W => refLess_any r.name s.name r.start s.start (.int .i64 r.count) (.int .i64 r.hi) (.int .u64 r.lo) (.int .i64 r.min) (.int .i64 r.max) (.int .i64 s.count) (.int .i64 s.hi) (.int .u64 s.lo) (.int .i64 s.min) (.int .i64 s.max) W)
          rw [hab] at HLE HRE
          have hbb : (ab == ab) = true := beq_self_eq_true _
          clear hab HK S K hord
          go_upto_region 25 with fail
          go_region_held3 (fun w' => NtS w w' r s ∧ (w'.cell? ⟨w.heap.size, 0, none⟩ = some (.string r.name) ∧ w'.cell? ⟨w.heap.size, 1, none⟩ = some (.int .i64 r.start) ∧ w'.cell? ⟨w.heap.size, 2, none⟩ = some (.int .i64 r.count) ∧ w'.cell? ⟨w.heap.size, 3, none⟩ = some (.int .i64 r.hi) ∧ w'.cell? ⟨w.heap.size, 4, none⟩ = some (.int .u64 r.lo) ∧ w'.cell? ⟨w.heap.size, 5, none⟩ = some (.int .i64 r.min) ∧ w'.cell? ⟨w.heap.size, 6, none⟩ = some (.int .i64 r.max)) ∧
              w'.cell? ⟨w.heap.size + 1, 0, none⟩ = some (.string s.name) ∧ w'.cell? ⟨w.heap.size + 1, 1, none⟩ = some (.int .i64 s.start) ∧ w'.cell? ⟨w.heap.size + 1, 2, none⟩ = some (.int .i64 s.count) ∧ w'.cell? ⟨w.heap.size + 1, 3, none⟩ = some (.int .i64 s.hi) ∧ w'.cell? ⟨w.heap.size + 1, 4, none⟩ = some (.int .u64 s.lo) ∧ w'.cell? ⟨w.heap.size + 1, 5, none⟩ = some (.int .i64 s.min) ∧ w'.cell? ⟨w.heap.size + 1, 6, none⟩ = some (.int .i64 s.max))
            (first
              | assumption
              | exact E0D.full
              | (go_split_ands; exact NtS.full (by assumption))
              | (go_split_ands; exact NtS.full (NtS.apart hbp (by assumption) hBw2))
              | (go_split_ands; exact NtS.full (NtS.next hbl (by assumption)))
              | (go_split_ands; exact NtS.full (NtS.next hbm (by assumption)))
              | (go_split_ands; exact NtS.full (NtS.next hbo (by assumption))))
            (first
              | (go_at_call 5; go_split_ands; refine (HA.out _ (NtS.bel (r := r) (s := s) (by assumption))).mono ?_; rintro e wo ⟨rfl, hbo⟩
                 have HWo := Lib.hid (show Below wr.heap.size wr wo from HWD.out.trans (hbo.mono (Nat.le_of_eq hwd))))
              | (go_at_call 17; go_split_ands; refine (HLE.out _).mono ?_; rintro e wl ⟨rfl, hbl⟩
                 have HWl := Lib.hid (show Below wr.heap.size wr wl from by first | exact HWo.out.trans (hbl.mono HWo.out.size) | exact HWm.out.trans (hbl.mono HWm.out.size)))
              | (go_at_call 18; go_split_ands; refine (HRE.out _).mono ?_; rintro e wm ⟨rfl, hbm⟩
                 have HWm := Lib.hid (show Below wr.heap.size wr wm from by first | exact HWl.out.trans (hbm.mono HWl.out.size) | exact HWo.out.trans (hbm.mono HWo.out.size)))
              | (go_at_call 19; go_split_ands; refine (HAP.out _ (by first | exact HWm.out | exact HWl.out)).mono ?_; rintro e wp ⟨rfl, hbp⟩))
          all_goals
            go_split_ands
            have hfin : NtS w wp r s := by assumption
            have hbel := hfin.bel
            clear hfin
            go_wp2_with fail
            go_ret
            exact ⟨rfl, hbel⟩
theorem walk_nameTells {w : World} (A : Option Addr) (n cap : Nat) (ss : List ByteArray) (hs : Strs w A n ss) (sh : Int) (_hi : (Lit.int .i64 sh).wf = true) {vr vs : Value} (r : Rec) (hr : Rec.Is vr r) (s : Rec) (hq : Rec.Is vs s) :
    Calls Try.prog 3 #[.slice A n cap, .int .i64 sh, vr, vs] w fun e w' => e = .returned (.bool true) ∧ Below w.heap.size w w' := by
  rw [hr.val, hq.val]
  exact walk_nameTells0 A n cap ss hs sh r s
end Go.Proofs.Ytcglbbabfkbcbaa
