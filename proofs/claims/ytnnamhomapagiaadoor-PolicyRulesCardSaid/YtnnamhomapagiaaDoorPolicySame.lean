/-
  PolicySame: its walk.
-/
import Derived.Test.YtnnamhomapagiaaDoorPolAlive
import Derived.Test.YtnnamhomapagiaaDoorPolIn
import Derived.Deep.DeepCutAuto
import Derived.Deep.RegionHeld3
namespace Go.Proofs.YtnnamhomapagiaaDoor
open Go.ChangeShapes Go.WideShapes Go.ChangeAt Go.RowKit Go.Deep

theorem xor_one (a : Int) : bits .xor .i64 a 1 ≠ a ∧ -9223372036854775808 ≤ bits .xor .i64 a 1 ∧ bits .xor .i64 a 1 ≤ 9223372036854775807 := by
  obtain ⟨x, hx⟩ : ∃ x, x = BitVec.ofInt 64 a := ⟨_, rfl⟩
  have e : bits .xor .i64 a 1 = IntKind.i64.wrap ((x ^^^ BitVec.ofInt 64 1).toNat : Int) := by rw [hx]; rfl
  have hn := (x ^^^ BitVec.ofInt 64 1).isLt
  obtain ⟨n, hnn⟩ : ∃ n, n = (x ^^^ BitVec.ofInt 64 1).toNat := ⟨_, rfl⟩
  rw [← hnn] at e hn
  have hw : IntKind.i64.wrap (n : Int) = if (n : Int) ≥ 9223372036854775808 then (n : Int) - 18446744073709551616 else n := by
    have : (n : Int) % 18446744073709551616 = n := by omega
    simp [IntKind.wrap, IntKind.bits, IntKind.signed, this]
  rw [e, hw]
  refine ⟨fun h => ?_, ?_, ?_⟩
  · have h1 : x.toNat = n := by
      rw [hx, BitVec.toNat_ofInt]
      split at h <;> omega
    have h2 : x = x ^^^ BitVec.ofInt 64 1 := BitVec.eq_of_toNat_eq (by rw [h1, hnn])
    have h3 : x ^^^ x = x ^^^ (x ^^^ BitVec.ofInt 64 1) := congrArg (x ^^^ ·) h2
    rw [← BitVec.xor_assoc, BitVec.xor_self, BitVec.zero_xor] at h3
    exact absurd h3 (by decide)
  · split <;> omega
  · split <;> omega
structure SaS (w0 w5 w' : World) (bp bq bc : Nat) (pv qv cv : Array Value) : Prop where
  p : Bx w' bp 24 pv
  q : Bx w' bq 24 qv
  c : Bx w' bc 24 cv
  bel : Below w0.heap.size w0 w'
  bel5 : Below w5.heap.size w5 w'
section
variable {w0 w5 w w' : World} {bp bq bc : Nat} {pv qv cv : Array Value} {x y z : ByteArray} {A B C : Option Addr} {n m k c d e : Nat}
theorem SaS.below (h : SaS w0 w5 w bp bq bc pv qv cv) (hb : Below w.heap.size w w') : SaS w0 w5 w' bp bq bc pv qv cv := ⟨h.p.below hb, h.q.below hb, h.c.below hb, h.bel.trans (hb.mono h.bel.size), h.bel5.trans (hb.mono h.bel5.size)⟩
theorem SaS.full (h : SaS w0 w5 w bp bq bc #[.string x, .slice A n c] #[.string y, .slice B m d] #[.string z, .slice C k e]) :
    SaS w0 w5 w bp bq bc #[.string x, .slice A n c] #[.string y, .slice B m d] #[.string z, .slice C k e] ∧ w.cell? ⟨bp, 0, none⟩ = some (.string x) ∧ w.cell? ⟨bp, 1, none⟩ = some (.slice A n c) ∧ w.cell? ⟨bq, 0, none⟩ = some (.string y) ∧ w.cell? ⟨bq, 1, none⟩ = some (.slice B m d) ∧ w.cell? ⟨bc, 0, none⟩ = some (.string z) ∧ w.cell? ⟨bc, 1, none⟩ = some (.slice C k e) :=
  ⟨h, h.p.at_ 0 rfl, h.p.at_ 1 rfl, h.q.at_ 0 rfl, h.q.at_ 1 rfl, h.c.at_ 0 rfl, h.c.at_ 1 rfl⟩
end
theorem rowK_set {α : Type} {cs : α → List Value} {k : Nat} (hk : ∀ x, (cs x).length = k) : ∀ (l : List α) (j : Nat) (hj : j < l.length) (q : Nat) (x : α) (u : Value), q < k → cs x = (cs l[j]).set q u → (l.flatMap cs).set (j * k + q) u = (l.set j x).flatMap cs
  | [], j, hj, _, _, _, _, _ => by simp at hj
  | a :: r, 0, _, q, x, u, hq, he => by
    simp only [List.getElem_cons_zero] at he
    rw [List.set_cons_zero, List.flatMap_cons, List.flatMap_cons, Nat.zero_mul, Nat.zero_add, he, List.set_append_left _ _ (by rw [hk]; exact hq)]
  | a :: r, j + 1, hj, q, x, u, hq, he => by
    simp only [List.getElem_cons_succ] at he
    rw [List.set_cons_succ, List.flatMap_cons, List.flatMap_cons, List.set_append_right _ _ (by rw [hk, Nat.add_mul]; omega), hk, show (j + 1) * k + q - k = j * k + q from by rw [Nat.add_mul]; omega]
    rw [rowK_set hk r j (by simpa using hj) q x u hq he]
theorem ok_set {ts : List Ti} {j : Nat} {t : Ti} (h : ∀ x ∈ ts, x.Ok) (ht : t.Ok) : ∀ x ∈ ts.set j t, x.Ok := by
  intro x hx
  rcases List.mem_or_eq_of_mem_set hx with h1 | rfl
  · exact h x h1
  · exact ht
theorem sameP_comm (x y : ByteArray) (a b : List Ti) : sameP x y a b = sameP y x b a := by rw [Bool.eq_iff_iff, sameP_iff, sameP_iff]; exact and_congr eq_comm eq_comm
theorem sameP_self (x : ByteArray) (a : List Ti) : sameP x x a a = true := sameP_iff.2 ⟨rfl, rfl⟩
set_option maxRecDepth 100000 in
set_option maxHeartbeats 4000000 in
theorem walk_PolicySame {v0 v1 : Value} (x y : ByteArray × Option Addr × Nat × Nat × List Ti) (k : Int) (w : World) (hm : ∃ m : Int, w.cell? ⟨0, 0, none⟩ = some (.int .i64 m)) (htab : Lib.TabIs Tryd.prog w "internal/strconv.uint64pow10" .u64 Lib.pow10Tab)
    (hx : PolArg w v0 x) (hy : PolArg w v1 y) (hk : (Lit.int .i64 k).wf = true) :
    Calls Tryd.prog 7 #[v0, v1, .int .i64 k] w fun e w' => e = .returned (.bool true) ∧ Below w.heap.size w w' := by
  obtain ⟨nm, A, n, c, ts⟩ := x
  obtain ⟨nm2, B, m, d, us⟩ := y
  obtain ⟨rfl, hnm, hts, hc⟩ := hx
  obtain ⟨rfl, hnm2, hus, hd⟩ := hy
  simp only at hnm hts hc hnm2 hus hd ⊢
  have hlt0 : 0 < w.heap.size := by obtain ⟨m, h⟩ := hm; have := block_lt_of_cell h; simpa using this
  have HALIVE := Lib.hid (fun W (hW : Below w.heap.size w W) => alive_any W (hm.imp fun m h => (hW.cell (p := ⟨0, 0, none⟩) hlt0).trans h) (Lib.tabBelow_of_tabIs htab W hW))
  have HT := Lib.hid hts
  have HU := Lib.hid hus
  have hkb := bd_i64' hk
  clear hm htab hlt0 hk
  have hb0 : Below w.heap.size w ((w.alloc (.cells #[.string nm, .slice A n c] 24)).alloc (.cells #[.string nm2, .slice B m d] 24)) := ((Below.refl _ _).alloc (Nat.le_refl _) _).alloc (by simp) _
  have bp := (Bx.new w 24 #[.string nm, .slice A n c]).alloc (.cells #[.string nm2, .slice B m d] 24)
  have bq := Bx.new (w.alloc (.cells #[.string nm, .slice A n c] 24)) 24 #[.string nm2, .slice B m d]
  rw [World.size_alloc] at bq
  have p0 := bp.at_ 0 rfl
  have p1 := bp.at_ 1 rfl
  go_enter Tryd.func7, Tryd.ntmps7
  go_upto_region 1 with fail
  generalize (w.alloc (.cells #[.string nm, .slice A n c] 24)).alloc (.cells #[.string nm2, .slice B m d] 24) = w1 at *
  have hbx := hb0
  go_upto_region 4 with (first
    | (go_at_call 8; (with_reducible refine (small_any nm A n c ts _ hnm (HT.out.below hb0)).mono ?_); rintro e w2 ⟨b1, rfl, hs1, hb2⟩
       have hbx := hb0.trans (hb2.mono hb0.size)
       have bp2 := bp.below hb2
       have bq2 := bq.below hb2
       have p0 := bp2.at_ 0 rfl
       have p1 := bp2.at_ 1 rfl
       have q0 := bq2.at_ 0 rfl
       have q1 := bq2.at_ 1 rfl)
    | (go_at_call 8; refine (small_any nm2 B m d us _ hnm2 (HU.out.below hbx)).mono ?_; rintro e w3 ⟨b2, rfl, hs2, hb3⟩
       have bp3 := bp2.below hb3
       have bq3 := bq2.below hb3
       have p0 := bp3.at_ 0 rfl
       have p1 := bp3.at_ 1 rfl
       have hbx := hbx.trans (hb3.mono hbx.size))
    | (go_at_call 17; refine (copyP_any nm A n c ts _ (HT.out.below hbx) (by have := (hs1 (by first | assumption | simpa using ‹_›)).1; omega)).mono ?_; rintro e w4 ⟨A', c', rfl, hrow, hb4⟩
       have bp4 := bp3.below hb4
       have bq4 := bq3.below hb4
       have hbx := hbx.trans (hb4.mono hbx.size))
    | (go_at_call 9; refine (HALIVE.out _ hbx).mono ?_; rintro e w5 ⟨rfl, hb5⟩
       have hfin := hbx.trans (hb5.mono hbx.size)))
  all_goals try (go_ret; exact ⟨rfl, hfin⟩)
  have hlen : n ≤ 10 := (hs1 (by assumption)).1
  have hba := (Below.refl w4.heap.size w4).alloc (Nat.le_refl _) (.cells #[.string nm, .slice A' n c'] 24)
  have S0 : SaS w _ _ w.heap.size (w.heap.size + 1) w4.heap.size _ _ _ := ⟨bp4.below hba, bq4.below hba, Bx.new w4 24 #[.string nm, .slice A' n c'], hbx.trans (hba.mono hbx.size), Below.refl _ _⟩
  have S0D := S0.below (Below.refl _ _).drew
  have hrow5 := own_below hrow hba
  have hw34 : w.heap.size + 2 ≤ w3.heap.size := by have := bq3.lt; omega
  have HC5 := Lib.hid (show Tis _ A' n ts from by obtain ⟨A2, c2, e, hh⟩ := own_tis hrow5 hts.len hts.ok (by unfold maxLen; omega); cases e; exact hh)
  have HROW := Lib.hid hrow5
  have hbc : w3.heap.size ≤ w4.heap.size := hb4.size
  obtain ⟨Wc, hWc⟩ : ∃ Wc, Wc = w4.alloc (.cells #[.string nm, .slice A' n c'] 24) := ⟨_, rfl⟩
  obtain ⟨bc, hbce⟩ : ∃ bc, bc = w4.heap.size := ⟨_, rfl⟩
  rw [← hWc] at S0 S0D HC5 HROW ⊢
  rw [← hbce] at S0 S0D hbc ⊢
  have HSP := Lib.hid (fun W (hW : Below w.heap.size w W) (hW2 : Below Wc.heap.size Wc W) => same_any nm nm A A' n n c c' ts ts W (HT.out.below hW) (HC5.out.below hW2))
  have HSQ := Lib.hid (fun W (hW : Below w.heap.size w W) => same_any nm nm2 A B n m c d ts us W (HT.out.below hW) (HU.out.below hW))
  have HSR := Lib.hid (fun W (hW : Below w.heap.size w W) => same_any nm2 nm B A m n d c us ts W (HU.out.below hW) (HT.out.below hW))
  have HSS := Lib.hid (fun W (hW : Below w.heap.size w W) => same_any nm nm A A n n c c ts ts W (HT.out.below hW) (HT.out.below hW))
  rw [sameP_self] at HSP HSS
  rw [sameP_comm nm2 nm] at HSR
  obtain ⟨Bq, hBq⟩ : ∃ Bq, sameP nm nm2 ts us = Bq := ⟨_, rfl⟩
  rw [hBq] at HSQ HSR
  have hBB : (Bq != Bq) = false := by cases Bq <;> rfl
  have HBL := Lib.hid (show Below Wc.heap.size Wc Wc.drew from (Below.refl _ _).drew)
  clear hba hrow hrow5 hs1 hs2 hb2 hb3 hb4 bp bq bp2 bq2 bp3 bq3 bp4 bq4 p0 p1 hbx hbce hWc hBq
  clear HBL
  go_region_held3 (fun w' => SaS w Wc w' w.heap.size (w.heap.size + 1) bc #[.string nm, .slice A n c] #[.string nm2, .slice B m d] #[.string nm, .slice A' n c'] ∧ w'.cell? ⟨w.heap.size, 0, none⟩ = some (.string nm) ∧ w'.cell? ⟨w.heap.size, 1, none⟩ = some (.slice A n c) ∧ w'.cell? ⟨w.heap.size + 1, 0, none⟩ = some (.string nm2) ∧ w'.cell? ⟨w.heap.size + 1, 1, none⟩ = some (.slice B m d) ∧ w'.cell? ⟨bc, 0, none⟩ = some (.string nm) ∧ w'.cell? ⟨bc, 1, none⟩ = some (.slice A' n c'))
    (first
      | assumption
      | exact S0D.full
      | (go_split_ands; exact SaS.full (by assumption))
      | (go_split_ands; exact SaS.full (SaS.below (by assumption) hbo)))
    (first
      | (go_at_call 16; go_split_ands; (with_reducible refine (HSP.out _ (SaS.bel (by assumption)) (SaS.bel5 (by assumption))).mono ?_); rintro e wo ⟨rfl, hbo⟩)
      | (go_at_call 16; go_split_ands; (with_reducible refine (HSQ.out _ (SaS.bel (by assumption))).mono ?_); rintro e wo ⟨rfl, hbo⟩)
      | (go_at_call 16; go_split_ands; (with_reducible refine (HSR.out _ (SaS.bel (by assumption))).mono ?_); rintro e wo ⟨rfl, hbo⟩)
      | (go_at_call 16; go_split_ands; (with_reducible refine (HSS.out _ (SaS.bel (by assumption))).mono ?_); rintro e wo ⟨rfl, hbo⟩))
  all_goals
    go_split_ands
    have S1 : SaS w Wc wo w.heap.size (w.heap.size + 1) bc #[.string nm, .slice A n c] #[.string nm2, .slice B m d] #[.string nm, .slice A' n c'] := by assumption
    have HS1 := Lib.hid S1
    have x1 := S1.c.at_ 1 rfl
    clear S0 S0D HSP HSQ HSR HSS S1 hbo
    by_cases hk : 0 ≤ k ∧ k < n
    rotate_left
    · have hkk : k < 0 ∨ (n : Int) ≤ k := by omega
      clear hk
      rcases hkk with hk | hk
      all_goals
        go_wp2_with (go_at_call 9; refine (HALIVE.out _ HS1.out.bel).mono ?_; rintro e w6 ⟨rfl, hb6⟩)
        go_ret
        exact ⟨rfl, HS1.out.bel.trans (hb6.mono HS1.out.bel.size)⟩
    obtain ⟨hk0, hk1⟩ := hk
    obtain ⟨j, rfl⟩ : ∃ j : Nat, k = j := ⟨k.toNat, by omega⟩
    have hjn : j < n := by omega
    have hjt : j < ts.length := by rw [HT.out.len]; exact hjn
    have hr0 := own_below HROW.out HS1.out.bel5
    obtain ⟨g, hA'⟩ : ∃ g, A' = some ⟨g, 0, none⟩ := by
      rcases hr0.2 with ⟨e, _⟩ | ⟨g, cap, cur, e, _⟩
      · cases e; omega
      · cases e; exact ⟨g, rfl⟩
    subst hA'
    have hg := hr0.lt g rfl
    have hokt := HT.out.ok _ (List.getElem_mem hjt)
    have hcell := hr0.cellAt (j * 4 + 2) (by omega)
    rw [rowK_get ti_len ts j hjt 2 (by omega)] at hcell
    have hfz := hr0.frozenAt (j * 4 + 2)
    have hst := (hr0.stored (j * 4 + 2) (.int .i64 (bits .xor .i64 (ts[j]'hjt).kp 1))).1
    rw [rowK_set ti_len ts j hjt 2 ⟨(ts[j]'hjt).nm, (ts[j]'hjt).ev, bits .xor .i64 (ts[j]'hjt).kp 1, (ts[j]'hjt).sh⟩ _ (by omega) rfl] at hst
    obtain ⟨us2, hus2⟩ : ∃ us2, us2 = ts.set j ⟨(ts[j]'hjt).nm, (ts[j]'hjt).ev, bits .xor .i64 (ts[j]'hjt).kp 1, (ts[j]'hjt).sh⟩ := ⟨_, rfl⟩
    have hxo := xor_one (ts[j]'hjt).kp
    have hne : ts ≠ us2 := fun e => by
      have h1 : ts[j]? = us2[j]? := by rw [← e]
      rw [hus2, List.getElem?_eq_getElem hjt, List.getElem?_set_self hjt] at h1
      injection h1 with h1
      exact hxo.1 (congrArg Ti.kp h1).symm
    have hok2 : ∀ x ∈ us2, x.Ok := by rw [hus2]; exact ok_set HT.out.ok ⟨hokt.nm, hokt.ev, hxo.2, hokt.sh⟩
    have hul : us2.length = n := by rw [hus2, List.length_set]; exact HT.out.len
    rw [← hus2] at hst
    have hk7 : (ts[j]'hjt).cells[2]? = some (.int .i64 (ts[j]'hjt).kp) := rfl
    rw [hk7] at hcell
    generalize (ts[j]'hjt).kp = q at *
    have hgc : g ≠ bc := fun e => ownBlock_ne_k hr0 HS1.out.c.blk (by decide) (by rw [← e]; rfl)
    obtain ⟨u, hu⟩ : ∃ u, u = bits .xor .i64 q 1 := ⟨_, rfl⟩
    rw [← hu] at hst
    have hbl := HS1.out.bel.setCell (p := ⟨g, j * 4 + 2, none⟩) (by show w.heap.size ≤ g; omega) (.int .i64 u)
    have S6 : SaS w w _ w.heap.size (w.heap.size + 1) bc _ _ _ := ⟨HS1.out.p.other (p := ⟨g, j * 4 + 2, none⟩) (by show w.heap.size ≠ g; omega) (.int .i64 u), HS1.out.q.other (by show w.heap.size + 1 ≠ g; omega) _, HS1.out.c.other (by show bc ≠ g; omega) _, hbl, hbl⟩
    have T6 := Lib.hid (show Tis _ (some ⟨g, 0, none⟩) n us2 from by obtain ⟨A2, c2, e, hh⟩ := own_tis hst hul hok2 (by unfold maxLen; omega); cases e; exact hh)
    have HNE1 := Lib.hid (show sameP nm nm ts us2 = false from by unfold sameP; rw [sameTs_no hne]; simp)
    have HNE2 := Lib.hid (show sameP nm nm us2 ts = false from by unfold sameP; rw [sameTs_no hne.symm]; simp)
    have g0 : (0 : Int) ≤ (j : Int) := by omega
    clear hr0 hst hok2 hne hxo hokt hul hus2 HROW HC5 hbl hgc hg
    go_upto_region 9 with fail
    rw [← hu]
    generalize wo.setCell ⟨g, j * 4 + 2, none⟩ (.int .i64 u) = W6 at *
    have p0 := S6.p.at_ 0 rfl
    clear hcell hfz x1 HS1
    go_wp2_with (first
      | (go_at_call 9; refine (HALIVE.out _ S6.bel).mono ?_; rintro e w7 ⟨rfl, hb7⟩
         have S7 := S6.below hb7
         have z0 := S7.p.at_ 0 rfl
         have z1 := S7.p.at_ 1 rfl
         have z2 := S7.c.at_ 0 rfl
         have z3 := S7.c.at_ 1 rfl
         have T7 := Lib.hid (T6.out.below hb7))
      | (go_at_call 16; (with_reducible refine (same_any nm nm A (some ⟨g, 0, none⟩) n n c c' ts us2 _ (HT.out.below S7.bel) T7.out).mono ?_); rw [HNE1.out]; rintro e w8 ⟨rfl, hb8⟩
         have S8 := S7.below hb8
         have z0 := S8.p.at_ 0 rfl
         have z1 := S8.p.at_ 1 rfl
         have z2 := S8.c.at_ 0 rfl
         have z3 := S8.c.at_ 1 rfl
         have T8 := Lib.hid (T7.out.below hb8))
      | (go_at_call 16; refine (same_any nm nm (some ⟨g, 0, none⟩) A n n c' c us2 ts _ T8.out (HT.out.below S8.bel)).mono ?_; rw [HNE2.out]; rintro e w9 ⟨rfl, hb9⟩))
    go_ret
    exact ⟨rfl, S8.bel.trans (hb9.mono S8.bel.size)⟩
end Go.Proofs.YtnnamhomapagiaaDoor
