/-
  Policies: their tiers as slices; slices.Clone; policy.Copy.
-/
import Derived.Test.YtcglbbabfkbcbadGreatM1
import Derived.Test.YtcglbbabfkbcbadGreatM7
import Derived.Test.YtcglbbabfkbcbadGreatM5
import Derived.WalkSpells
import Derived.WalkLawsBesides
import Derived.Lib.Hide
import Derived.Lib.SliceRun
import Derived.Outline
import Derived.OpenShut
import Derived.Laws.ResultCell
namespace Go.Proofs.YtcglbbabfkbcbadGreat
open Go.ChangeShapes Go.WideShapes Go.ChangeAt Go.RowKit Go.Deep

/-- A tier. -/
structure Ti where
  nm : ByteArray
  ev : Int
  kp : Int
  sh : Int
def Ti.cells (t : Ti) : List Value := [.string t.nm, .int .i64 t.ev, .int .i64 t.kp, .int .i64 t.sh]
structure Ti.Ok (t : Ti) : Prop where
  nm : t.nm.size ≤ maxLen
  ev : -9223372036854775808 ≤ t.ev ∧ t.ev ≤ 9223372036854775807
  kp : -9223372036854775808 ≤ t.kp ∧ t.kp ≤ 9223372036854775807
  sh : -9223372036854775808 ≤ t.sh ∧ t.sh ≤ 9223372036854775807
theorem ti_len (t : Ti) : t.cells.length = 4 := rfl
theorem ti_one (t : Ti) : ∀ v ∈ t.cells, v.oneCell' = true := by
  intro v hv
  simp [Ti.cells] at hv
  rcases hv with rfl | rfl | rfl | rfl <;> rfl
theorem tis_one (l : List Ti) : ∀ u ∈ l.flatMap Ti.cells, u.oneCell' = true := by
  intro u hu
  obtain ⟨r, _, hr⟩ := List.mem_flatMap.1 hu
  exact ti_one r u hr
/-- A slice of tiers. -/
structure Tis (w : World) (A : Option Addr) (n : Nat) (l : List Ti) : Prop where
  sl : Sl w A (l.flatMap Ti.cells)
  len : l.length = n
  n_le : n ≤ maxLen
  ok : ∀ t ∈ l, t.Ok
structure TiCells (w : World) (b off : Nat) (t : Ti) : Prop where
  c0 : w.cell? ⟨b, off, none⟩ = some (.string t.nm)
  c1 : w.cell? ⟨b, off + 1, none⟩ = some (.int .i64 t.ev)
  c2 : w.cell? ⟨b, off + 2, none⟩ = some (.int .i64 t.kp)
  c3 : w.cell? ⟨b, off + 3, none⟩ = some (.int .i64 t.sh)
theorem Tis.get {w : World} {A : Option Addr} {n : Nat} {l : List Ti} (h : Tis w A n l) {j : Nat} (hj : j < l.length) : ∃ b off, A = some ⟨b, off, none⟩ ∧ b < w.heap.size ∧ TiCells w b (off + j * 4) l[j] := by
  have hne : l.flatMap Ti.cells ≠ [] := by
    cases l with
    | nil => simp at hj
    | cons a r => simp [Ti.cells]
  obtain ⟨b, off, e, hb, hc⟩ := h.sl.at_ hne
  have g := fun q hq => rowK_get ti_len l j hj q hq
  have c0 := hc (j * 4 + 0) _ (g 0 (by omega))
  have c1 := hc (j * 4 + 1) _ (g 1 (by omega))
  have c2 := hc (j * 4 + 2) _ (g 2 (by omega))
  have c3 := hc (j * 4 + 3) _ (g 3 (by omega))
  rw [← Nat.add_assoc] at c1 c2 c3
  exact ⟨b, off, e, hb, c0, c1, c2, c3⟩
theorem Tis.below {w w' : World} {A : Option Addr} {n : Nat} {l : List Ti} (h : Tis w A n l) (hb : Below w.heap.size w w') : Tis w' A n l := ⟨h.sl.below hb, h.len, h.n_le, h.ok⟩
theorem TiCells.keep {w w' : World} {b off : Nat} {t : Ti} {row : Option Nat} (h : TiCells w b off t) (hg : w.grownBy w' row) (hne : some b ≠ row) : TiCells w' b off t :=
  ⟨hg.cell h.c0 hne, hg.cell h.c1 hne, hg.cell h.c2 hne, hg.cell h.c3 hne⟩
/-- A row of the call's own as a slice, of whatever kind. -/
theorem own_sl {w : World} {B : Nat} {e : TypeId} {k : Nat} {v : Value} {n : Nat} {xs : List Value} (h : w.ownsRow B e k v n xs) : ∃ A c, v = .slice A n c ∧ Sl w A xs := by
  rcases h.2 with ⟨rfl, rfl⟩ | ⟨g, cap, cur, rfl, _, hg, _, _, _, ht⟩
  · have : xs = [] := List.eq_nil_of_length_eq_zero (by simpa using h.1)
    subst this
    exact ⟨none, 0, rfl, Sl.nil _ _⟩
  · refine ⟨some ⟨g, 0, none⟩, cap, rfl, ⟨fun _ => ⟨g, 0, rfl, lt_of_block hg, fun j u hu => ?_⟩⟩⟩
    have hj := (List.getElem?_eq_some_iff.1 hu).1
    rw [h.1] at hj
    rw [Nat.zero_add, h.cellAt j hj]
    exact hu
theorem own_tis {w : World} {B : Nat} {v : Value} {n : Nat} {l : List Ti} (h : w.ownsRow B 31 4 v n (l.flatMap Ti.cells)) (hl : l.length = n) (hok : ∀ t ∈ l, t.Ok) (hn : n ≤ maxLen) : ∃ A c, v = .slice A n c ∧ Tis w A n l := by
  obtain ⟨A, c, e, hs⟩ := own_sl h
  exact ⟨A, c, e, hs, hl, hn, hok⟩
theorem own_low {w : World} {B B' : Nat} {e : TypeId} {k n : Nat} {v : Value} {xs : List Value} (h : w.ownsRow B e k v n xs) (hb : B' ≤ B) : w.ownsRow B' e k v n xs :=
  ⟨h.1, h.2.imp id fun ⟨g, cap, cur, a, b, c⟩ => ⟨g, cap, cur, a, Nat.le_trans hb b, c⟩⟩
/-- A store into another block leaves a row alone. -/
theorem own_far {w : World} {B : Nat} {e : TypeId} {k n : Nat} {v : Value} {xs : List Value} (h : w.ownsRow B e k v n xs) {p : Addr} (hp : ∀ g, v.ownBlock = some g → g ≠ p.block) (u : Value) : (w.setCell p u).ownsRow B e k v n xs := by
  have hg : w.grownBy (w.setCell p u) (some p.block) := ⟨rfl, rfl, rfl, by simp, fun j _ hne => Below.heap_setCell w p u j (fun e => hne (by rw [e]))⟩
  refine h.kept hg ?_
  cases hv : v.ownBlock with
  | none => exact .inl rfl
  | some g => exact .inr fun e => hp g hv (by injection e)
theorem info_tier : (Tryz.prog.info? 31).map (fun i => (i.zero, i.size, i.bytes)) = some (some (.agg #[.string ByteArray.empty, .int .i64 0, .int .i64 0, .int .i64 0]), 4, 40) := by kernel_rfl
theorem info_int : (Tryz.prog.info? 3).map (fun i => (i.zero, i.size, i.bytes)) = some (some (.int .i64 0), 1, 8) := by kernel_rfl
theorem int_one (k : IntKind) (zs : List Int) : ∀ u ∈ zs.map (Value.int k), u.oneCell' = true := by
  intro u hu
  obtain ⟨z, _, rfl⟩ := List.mem_map.1 hu
  rfl
set_option maxRecDepth 100000 in
set_option maxHeartbeats 2000000 in
theorem cloneT_any (A : Option Addr) (n c : Nat) (l : List Ti) (w : World) (h : Tis w A n l) (hn : n ≤ 1000000) :
    Calls Tryz.prog 73 #[.slice A n c] w fun e w' => ∃ v, e = .returned v ∧ w'.ownsRow w.heap.size 31 4 v n (l.flatMap Ti.cells) ∧ Below w.heap.size w w' := by
  have hq := fun (W : World) (a : Option Addr) (n c n' c' : Nat) => Lib.run_eql_slice_nil (P := Tryz.prog) W _ _ a n c n' c' Tryz.underlying22
  obtain ⟨i0, hi, hz0, hz1, hz2⟩ := info_parts info_tier
  have hL := Lib.hid (show (l.flatMap Ti.cells).length = n * 4 from by rw [rowK_len ti_len, h.len])
  have hS := Lib.hid (h.sl.alloc (.cells #[] 31))
  cases A with
  | none =>
    have h0 : n = 0 := by
      rcases Nat.eq_zero_or_pos n with h0 | h0
      · exact h0
      · obtain ⟨b, off, e, _⟩ := h.get (j := 0) (by rw [h.len]; exact h0)
        cases e
    subst h0
    have hl : l = [] := List.eq_nil_of_length_eq_zero h.len
    subst hl
    go_enter Tryz.func73, Tryz.ntmps73
    go_wp2
    go_ret
    exact ⟨_, rfl, World.ownsRow_nil _ _ _ _, Below.refl _ _⟩
  | some ad =>
    clear h
    go_enter Tryz.func73, Tryz.ntmps73
    go_wp2_with (at_builtin; refine wpList_append_sl _ rfl _ _ 22 rfl w.heap.size 31 i0 _ 4 40 Tryz.underlying22 hi hz0 hz1 hz2 rfl (by decide) (.slice (some ⟨w.heap.size, 0, none⟩) 0 0) 0 [] rfl (World.ownsRow_made w #[] 0 (Nat.le_refl _) (Nat.zero_le _) (by simp)) (some ad) n c _ rfl hL.out hS.out (tis_one l) ?c4 ?c5 ?c6 ?_; (unfold maxLen; omega); (omega); (simp); intro v' w1 hown1 hg1 _)
    go_ret
    refine ⟨_, rfl, by simpa using hown1, ((Below.refl _ w).alloc (Nat.le_refl _) _).grown hg1 (by simp) (by intro k hk; simp [Value.ownBlock] at hk; omega)⟩
set_option maxRecDepth 100000 in
set_option maxHeartbeats 2000000 in
theorem cloneI_any (A : Option Addr) (n c : Nat) (zs : List Int) (w : World) (h : Ints w .i64 A n zs) (hn : n ≤ 1000000) :
    Calls Tryz.prog 24 #[.slice A n c] w fun e w' => ∃ v, e = .returned v ∧ w'.ownsRow w.heap.size 3 1 v n (zs.map (Value.int .i64)) ∧ Below w.heap.size w w' := by
  have hq := fun (W : World) (a : Option Addr) (n c n' c' : Nat) => Lib.run_eql_slice_nil (P := Tryz.prog) W _ _ a n c n' c' Tryz.underlying25
  obtain ⟨i0, hi, hz0, hz1, hz2⟩ := info_parts info_int
  have hL := Lib.hid (show (zs.map (Value.int .i64)).length = n * 1 from by rw [List.length_map, h.len]; omega)
  have hS := Lib.hid (h.sl.alloc (.cells #[] 3))
  cases A with
  | none =>
    have h0 : n = 0 := by
      rcases Nat.eq_zero_or_pos n with h0 | h0
      · exact h0
      · obtain ⟨b, off, e, _⟩ := h.get (j := 0) (by rw [h.len]; exact h0)
        cases e
    subst h0
    have hl : zs = [] := List.eq_nil_of_length_eq_zero h.len
    subst hl
    go_enter Tryz.func24, Tryz.ntmps24
    go_wp2
    go_ret
    exact ⟨_, rfl, World.ownsRow_nil _ _ _ _, Below.refl _ _⟩
  | some ad =>
    clear h
    go_enter Tryz.func24, Tryz.ntmps24
    go_wp2_with (at_builtin; refine wpList_append_sl _ rfl _ _ 25 rfl w.heap.size 3 i0 _ 1 8 Tryz.underlying25 hi hz0 hz1 hz2 rfl (by decide) (.slice (some ⟨w.heap.size, 0, none⟩) 0 0) 0 [] rfl (World.ownsRow_made w #[] 0 (Nat.le_refl _) (Nat.zero_le _) (by simp)) (some ad) n c _ rfl hL.out hS.out (int_one .i64 zs) ?c4 ?c5 ?c6 ?_; (unfold maxLen; omega); (omega); (simp); intro v' w1 hown1 hg1 _)
    go_ret
    refine ⟨_, rfl, by simpa using hown1, ((Below.refl _ w).alloc (Nat.le_refl _) _).grown hg1 (by simp) (by intro k hk; simp [Value.ownBlock] at hk; omega)⟩
theorem own_ints {w : World} {B : Nat} {v : Value} {n : Nat} {zs : List Int} (h : w.ownsRow B 3 1 v n (zs.map (Value.int .i64))) (hl : zs.length = n) (hok : ∀ z ∈ zs, (Lit.int .i64 z).wf = true) (hn : n ≤ maxLen) : ∃ A c, v = .slice A n c ∧ Ints w .i64 A n zs := by
  obtain ⟨A, c, e, hs⟩ := own_sl h
  exact ⟨A, c, e, hs, hl, hn, hok⟩
abbrev polV (nm : ByteArray) (A : Option Addr) (n c : Nat) : Value := .agg #[.string nm, .slice A n c]
set_option maxRecDepth 100000 in
set_option maxHeartbeats 2000000 in
theorem copyP_any (nm : ByteArray) (A : Option Addr) (n c : Nat) (l : List Ti) (w : World) (h : Tis w A n l) (hn : n ≤ 1000000) :
    Calls Tryz.prog 23 #[polV nm A n c] w fun e w' => ∃ A' c', e = .returned (polV nm A' n c') ∧ w'.ownsRow w.heap.size 31 4 (.slice A' n c') n (l.flatMap Ti.cells) ∧ Below w.heap.size w w' := by
  have b0 := Bx.new w 24 #[.string nm, .slice A n c]
  have b1 := Bx.new (w.alloc (.cells #[.string nm, .slice A n c] 24)) 24 #[.string ByteArray.empty, .slice none 0 0]
  rw [show (w.alloc (.cells #[.string nm, .slice A n c] 24)).heap.size = w.heap.size + 1 from by simp] at b1
  have b0' := b0.alloc (.cells #[.string ByteArray.empty, .slice none 0 0] 24)
  have hb : Below w.heap.size w ((w.alloc (.cells #[.string nm, .slice A n c] 24)).alloc (.cells #[.string ByteArray.empty, .slice none 0 0] 24)) := ((Below.refl _ _).alloc (Nat.le_refl _) _).alloc (by simp) _
  have hC := cloneT_any A n c l _ (h.below hb) hn
  have HC := Lib.hid hC
  clear hC b0
  go_enter Tryz.func23, Tryz.ntmps23
  go_wp2_with fail
  refine HC.out.mono ?_
  rintro e w2 ⟨v, rfl, hrow, hb2⟩
  have p0 := b0'.below hb2
  have p1 := b1.below hb2
  have q0 := p0.at_ 0 rfl
  have q1 := p0.at_ 1 rfl
  have f1 := p0.free 1
  have r0 := p1.at_ 0 rfl
  have r1 := p1.at_ 1 rfl
  have g0 := p1.free 0
  have g1 := p1.free 1
  have hbw := hb.trans (hb2.mono hb.size)
  obtain ⟨A', c', rfl, hs⟩ := own_sl hrow
  have hlt := hrow.lt
  have HLT := Lib.hid hlt
  have HR := Lib.hid hrow
  clear hlt hrow b0' b1 HC
  go_wp2
  have X := (((p1.other (p := ⟨w.heap.size, 1, none⟩) (by simp) (.slice A' n c')).set 0 (.string nm)).set 1 (.slice A' n c'))
  have x0 := X.at_ 0 rfl
  have x1 := X.at_ 1 rfl
  have hfin : Below w.heap.size w (((w2.setCell ⟨w.heap.size, 1, none⟩ (.slice A' n c')).setCell ⟨w.heap.size + 1, 0, none⟩ (.string nm)).setCell ⟨w.heap.size + 1, 1, none⟩ (.slice A' n c')) := ((hbw.setCell (by simp) _).setCell (by simp) _).setCell (by simp) _
  have hrow3 : (((w2.setCell ⟨w.heap.size, 1, none⟩ (.slice A' n c')).setCell ⟨w.heap.size + 1, 0, none⟩ (.string nm)).setCell ⟨w.heap.size + 1, 1, none⟩ (.slice A' n c')).ownsRow w.heap.size 31 4 (.slice A' n c') n (l.flatMap Ti.cells) := by
    have hne : ∀ k, k < w.heap.size + 2 → ∀ g, (Value.slice A' n c').ownBlock = some g → g ≠ k := fun k hk g hg e => by have := (HLT.out g hg).1; simp at this; omega
    refine own_low ?_ (Nat.le_trans (Nat.le_add_right _ 2) (Nat.le_refl _))
    have r := HR.out
    simp only [World.size_alloc] at r
    exact own_far (own_far (own_far r (fun g hg => hne _ (by simp) g hg) _) (fun g hg => hne _ (by simp) g hg) _) (fun g hg => hne _ (by simp) g hg) _
  generalize (((w2.setCell ⟨w.heap.size, 1, none⟩ (.slice A' n c')).setCell ⟨w.heap.size + 1, 0, none⟩ (.string nm)).setCell ⟨w.heap.size + 1, 1, none⟩ (.slice A' n c')) = W at x0 x1 hfin hrow3 ⊢
  exact bodyPost_ret (v := polV nm A' n c') (by simp [results, Tryz.results23, go_sem, x0, x1]) rfl ⟨A', c', rfl, hrow3, hfin⟩
end Go.Proofs.YtcglbbabfkbcbadGreat
