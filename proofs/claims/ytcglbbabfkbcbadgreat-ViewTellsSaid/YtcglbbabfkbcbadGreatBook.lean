/-
  Lists that are kept: rows of the call's own, one beside another; append that leaves what stands; marks.
-/
import Derived.Test.YtcglbbabfkbcbadGreatM1
import Derived.Laws.IdiomCopy
import Derived.RangeFuncBox
namespace Go.Proofs.YtcglbbabfkbcbadGreat
open Go.RowKit

section
variable {P : Program} (w : World)
/-- append leaves every own row that is no longer than the one it grows, or lies elsewhere. -/
def Leaves (e : TypeId) (size : Nat) (v : Value) (n : Nat) (w w' : World) : Prop :=
  ∀ B u m ys, w.ownsRow B e size u m ys → m ≤ n ∨ u.ownBlock ≠ v.ownBlock → w'.ownsRow B e size u m ys
theorem bk_leaves_room {e : TypeId} {size g n cap : Nat} {cur : Array Value} (news : List Value) (hg : w.heap[g]? = some (.cells cur e (0, 0))) (hfit : n * size + news.length ≤ cur.size) :
    Leaves e size (.slice (some ⟨g, 0, none⟩) n cap) n w (w.setRow g (cur.toList.take (n * size) ++ news ++ cur.toList.drop (n * size + news.length)).toArray) := by
  intro B u m ys hu hd
  refine ⟨hu.1, ?_⟩
  rcases hu.2 with hn | ⟨g', cap', cur', rfl, hb, hg', h1, h2, h3, h4⟩
  · exact .inl hn
  · by_cases e' : g' = g
    · subst e'
      rw [hg] at hg'
      injection hg' with hg'
      injection hg' with hg'
      subst hg'
      have hm : m ≤ n := by
        rcases hd with h | h
        · exact h
        · exact absurd rfl h
      refine .inr ⟨g', cap', _, rfl, hb, setRow_heap w g' cur _ e _ hg, h1, h2, ?_, ?_⟩
      · rw [← h3]
        simp only [List.size_toArray, List.length_append, List.length_take, List.length_drop, Array.length_toList]
        omega
      · have hms : m * size ≤ n * size := Nat.mul_le_mul_right _ hm
        show ((cur.toList.take (n * size) ++ news) ++ cur.toList.drop (n * size + news.length)).take (m * size) = ys
        rw [List.append_assoc, List.take_append_of_le_length (by rw [List.length_take, Array.length_toList]; omega), List.take_take, Nat.min_eq_left hms, h4]
    · exact .inr ⟨g', cap', cur', rfl, hb, (setRow_other w g g' _ e').trans hg', h1, h2, h3, h4⟩
theorem bk_leaves_grown {e : TypeId} {size : Nat} {v : Value} {n : Nat} {w' : World} (hg : w.grownBy w' none) : Leaves e size v n w w' :=
  fun _ _ _ _ hu _ => hu.kept hg (by cases (‹Value› : Value).ownBlock <;> simp)
theorem run_append_keep (base : Nat) (t ty e : TypeId) (i : TypeInfo) (z : Value) (size bytes : Nat) (ht : P.underlying t = some (.slice e)) (hi : P.info? e = some i) (hz : i.zero = some z)
    (hsize : i.size = size) (hby : i.bytes = bytes) (hzs : z.cells.size = size) (hsz : 0 < size)
    (v : Value) (n : Nat) (xs : List Value) (hown : w.ownsRow base e size v n xs)
    (A : Option Addr) (m c : Nat) (news : List Value) (hl : news.length = m * size) (hr : Sl w A news) (h1 : ∀ u ∈ news, u.oneCell' = true)
    (h63 : n + m ≤ maxLen) (hbytes : (n + m) * bytes ≤ 140737488355328) (hbase : base ≤ w.heap.size) :
    ∃ v' w', (Builtin.append_ #[t, t] ty #[v, .slice A m c]).run P w = .ok v' w' ∧ w'.ownsRow base e size v' (n + m) (xs ++ news) ∧ w.grownBy w' v.ownBlock ∧
      (v'.ownBlock = v.ownBlock ∨ v'.ownBlock = some w.heap.size) ∧ Leaves e size v n w w' := by
  obtain ⟨v', w', hrun, h2, h3, h4⟩ := run_append_sl (P := P) w base t ty e i z size bytes ht hi hz hsize hby hzs hsz v n xs hown A m c news hl hr h1 h63 hbytes hbase
  refine ⟨v', w', hrun, h2, h3, h4, ?_⟩
  rcases A with _ | ad
  · have hn : news = [] := by
      rcases news with _ | ⟨a, r⟩
      · rfl
      · obtain ⟨b, off, e, _⟩ := hr.at_ (by simp)
        cases e
    subst hn
    have hm : m = 0 := by
      rcases Nat.eq_zero_or_pos m with h0 | h0
      · exact h0
      · have := Nat.mul_pos h0 hsz
        simp at hl; omega
    subst hm
    have h5 := run_append_of_nil (P := P) w base t ty e i size ht hi v n xs hown c
    rw [h5] at hrun
    injection hrun with _ hw
    subst hw
    exact fun _ _ _ _ hu _ => hu
  · rcases hown.2 with ⟨rfl, rfl⟩ | ⟨g, cap, cur, rfl, hbg, hg, hnc, hcm, hcs, htake⟩
    · exact bk_leaves_grown w (by simpa [Value.ownBlock] using h3)
    · subst hsize
      by_cases hroom : n + m ≤ cap
      · have hfit : n * i.size + news.length ≤ cur.size := by rw [hl, hcs, ← Nat.add_mul]; exact Nat.mul_le_mul_right _ hroom
        have h5 := run_append_room (P := P) w t ty e i ht hi g n cap cur hg ad m c news hl (sl_add w hr) h1 hroom hfit
        rw [h5] at hrun
        injection hrun with _ hw
        subst hw
        exact bk_leaves_room w news hg hfit
      · subst hby
        have hlen := hown.1
        have hsmall : n + m ≤ 9223372036854775807 := by simp only [maxLen] at h63; omega
        have h5 := run_append_grow (P := P) w t ty e i z ht hi hz ⟨g, 0, none⟩ n cap xs hlen (hown.cells (g := g) rfl) ad m c news hl (sl_add w hr) (by omega) (by omega) (growslice_fits (by omega) hbytes)
        rw [h5] at hrun
        injection hrun with _ hw
        subst hw
        exact bk_leaves_grown w ⟨rfl, rfl, rfl, by simp, fun k hk _ => Go.heap_alloc_old w.drew _ hk⟩
theorem wp_append_keep {o : Oper} {a : Act} {K : Act → World → Prop} {Q : Exit → Act → World → Prop} (s x : Operand) (t : TypeId)
    (ho : o.op = .call { callee := .builtin .append, args := #[s, x], argTypes := #[t, t] })
    (base : Nat) (e : TypeId) (i : TypeInfo) (z : Value) (size bytes : Nat) (ht : P.underlying t = some (.slice e)) (hi : P.info? e = some i) (hz : i.zero = some z)
    (hsize : i.size = size) (hby : i.bytes = bytes) (hzs : z.cells.size = size) (hsz : 0 < size)
    (v : Value) (n : Nat) (xs : List Value) (hs : a.eval s = v) (hown : w.ownsRow base e size v n xs)
    (A : Option Addr) (m c : Nat) (news : List Value) (hx : a.eval x = .slice A m c) (hl : news.length = m * size) (hr : Sl w A news) (h1 : ∀ u ∈ news, u.oneCell' = true)
    (h63 : n + m ≤ maxLen) (hbytes : (n + m) * bytes ≤ 140737488355328) (hbase : base ≤ w.heap.size)
    (h : ∀ v' w', w'.ownsRow base e size v' (n + m) (xs ++ news) → w.grownBy w' v.ownBlock → (v'.ownBlock = v.ownBlock ∨ v'.ownBlock = some w.heap.size) → Leaves e size v n w w' → K (a.put o.dst v') w') : o.wp P a w K Q := by
  obtain ⟨v', w', hrun, h2, h3, h4, h5⟩ := run_append_keep (P := P) w base t o.type e i z size bytes ht hi hz hsize hby hzs hsz v n xs hown A m c news hl hr h1 h63 hbytes hbase
  unfold Oper.wp execOp
  simp only [ho, resolve, invoke, builtin, Sem.run_bind, Sem.run_pure, Result.andThen_ok, List.map_toArray, List.map_cons, List.map_nil, hs, hx, hrun]
  exact h v' w' h2 h3 h4 h5
theorem wpList_append_keep {ops : Array Oper} {rest : List Oper} {o : Oper} {a : Act} {Q : Exit → Act → World → Prop} (hgd : o.guard = none) (s x : Operand) (t : TypeId)
    (ho : o.op = .call { callee := .builtin .append, args := #[s, x], argTypes := #[t, t] })
    (base : Nat) (e : TypeId) (i : TypeInfo) (z : Value) (size bytes : Nat) (ht : P.underlying t = some (.slice e)) (hi : P.info? e = some i) (hz : i.zero = some z)
    (hsize : i.size = size) (hby : i.bytes = bytes) (hzs : z.cells.size = size) (hsz : 0 < size)
    (v : Value) (n : Nat) (xs : List Value) (hs : a.eval s = v) (hown : w.ownsRow base e size v n xs)
    (A : Option Addr) (m c : Nat) (news : List Value) (hx : a.eval x = .slice A m c) (hl : news.length = m * size) (hr : Sl w A news) (h1 : ∀ u ∈ news, u.oneCell' = true)
    (h63 : n + m ≤ maxLen) (hbytes : (n + m) * bytes ≤ 140737488355328) (hbase : base ≤ w.heap.size)
    (h : ∀ v' w', w'.ownsRow base e size v' (n + m) (xs ++ news) → w.grownBy w' v.ownBlock → (v'.ownBlock = v.ownBlock ∨ v'.ownBlock = some w.heap.size) → Leaves e size v n w w' → wpList P ops Q rest (a.put o.dst v') w') : wpList P ops Q (o :: rest) a w :=
  wpList_plain hgd fun _ hK => wp_append_keep w s x t ho base e i z size bytes ht hi hz hsize hby hzs hsz v n xs hs hown A m c news hx hl hr h1 h63 hbytes hbase fun v' w' h2 h3 h4 h5 => hK _ _ (h v' w' h2 h3 h4 h5)
end

/-! Rows. -/
theorem bk_grown {a b : World} (h : Below a.heap.size a b) (row : Option Nat) : a.grownBy b row := ⟨h.os, h.tape, h.output, h.size, fun i hi _ => h.block i hi⟩
theorem bk_below {w w' : World} {B : Nat} {e : TypeId} {k : Nat} {v : Value} {n : Nat} {xs : List Value} (h : w.ownsRow B e k v n xs) (hb : Below w.heap.size w w') : w'.ownsRow B e k v n xs :=
  h.kept (bk_grown hb none) (by cases v.ownBlock <;> simp)
theorem bk_sl {w : World} {B : Nat} {e : TypeId} {k : Nat} {v : Value} {n : Nat} {xs : List Value} (h : w.ownsRow B e k v n xs) : ∃ A c, v = .slice A n c ∧ Sl w A xs := by
  rcases h.2 with ⟨rfl, rfl⟩ | ⟨g, cap, cur, rfl, _, hg, _, _, _, ht⟩
  · have : xs = [] := List.eq_nil_of_length_eq_zero (by simpa using h.1)
    subst this
    exact ⟨none, 0, rfl, Sl.nil _ _⟩
  · refine ⟨some ⟨g, 0, none⟩, cap, rfl, ⟨fun _ => ⟨g, 0, rfl, lt_of_block hg, fun j u hu => ?_⟩⟩⟩
    have hj := (List.getElem?_eq_some_iff.1 hu).1
    rw [h.1] at hj
    rw [Nat.zero_add, h.cellAt j hj]
    exact hu
theorem bk_low {w : World} {B B' : Nat} {e : TypeId} {k n : Nat} {v : Value} {xs : List Value} (h : w.ownsRow B e k v n xs) (hb : B' ≤ B) : w.ownsRow B' e k v n xs :=
  ⟨h.1, h.2.imp id fun ⟨g, cap, cur, a, b, c⟩ => ⟨g, cap, cur, a, Nat.le_trans hb b, c⟩⟩
theorem bk_block {w : World} {B : Nat} {e : TypeId} {k : Nat} {v : Value} {n : Nat} {xs : List Value} (h : w.ownsRow B e k v n xs) {b : Nat} (hb : v.ownBlock = some b) : ∃ cur, w.heap[b]? = some (.cells cur e (0, 0)) := by
  rcases h.2 with ⟨rfl, _⟩ | ⟨g, cap, cur, rfl, _, hg, _⟩
  · simp [Value.ownBlock] at hb
  · simp [Value.ownBlock] at hb; subst hb; exact ⟨cur, hg⟩
/-- Rows of unlike types lie in unlike blocks. -/
theorem bk_apart {w : World} {B B' : Nat} {e e' : TypeId} {k k' : Nat} {v v' : Value} {n n' : Nat} {xs xs' : List Value} (h : w.ownsRow B e k v n xs) (h' : w.ownsRow B' e' k' v' n' xs') (hne : e ≠ e') : v.ownBlock = none ∨ v.ownBlock ≠ v'.ownBlock := by
  cases hv : v.ownBlock with
  | none => exact .inl rfl
  | some b =>
    refine .inr fun e2 => ?_
    obtain ⟨c, hc⟩ := bk_block h hv
    obtain ⟨c', hc'⟩ := bk_block h' e2.symm
    rw [hc] at hc'
    injection hc' with hc'
    injection hc' with _ e3
    exact hne e3
theorem Bx.not_row {w : World} {g : Nat} {T : TypeId} {cs : Array Value} (h : Bx w g T cs) {B : Nat} {e : TypeId} {k : Nat} {v : Value} {n : Nat} {xs : List Value} (h' : w.ownsRow B e k v n xs) (hne : T ≠ e) : some g ≠ v.ownBlock := by
  intro e2
  obtain ⟨c', hc'⟩ := bk_block h' e2.symm
  rw [h.blk] at hc'
  injection hc' with hc'
  injection hc' with _ e3
  exact hne e3
/-- What a call leaves that touches no block but those of one type, from the base on. -/
structure Spares (B : Nat) (T : TypeId) (w w' : World) : Prop where
  os : w'.os = w.os
  tape : w'.tape = w.tape
  output : w'.output = w.output
  size : w.heap.size ≤ w'.heap.size
  block : ∀ b, b < w.heap.size → (b < B ∨ ∀ cs fr, w.heap[b]? ≠ some (.cells cs T fr)) → w'.heap[b]? = w.heap[b]?
theorem Spares.refl (B : Nat) (T : TypeId) (w : World) : Spares B T w w := ⟨rfl, rfl, rfl, Nat.le_refl _, fun _ _ _ => rfl⟩
theorem Spares.trans {B : Nat} {T : TypeId} {a b c : World} (h : Spares B T a b) (k : Spares B T b c) : Spares B T a c :=
  ⟨k.os.trans h.os, k.tape.trans h.tape, k.output.trans h.output, Nat.le_trans h.size k.size, fun i hi hd => by
    have e1 := h.block i hi hd
    refine (k.block i (Nat.lt_of_lt_of_le hi h.size) ?_).trans e1
    rcases hd with hd | hd
    · exact .inl hd
    · exact .inr fun cs fr => by rw [e1]; exact hd cs fr⟩
theorem Spares.of_below {B : Nat} {T : TypeId} {w w' : World} (h : Below w.heap.size w w') : Spares B T w w' := ⟨h.os, h.tape, h.output, h.size, fun i hi _ => h.block i hi⟩
theorem Spares.of_grown {B : Nat} {T : TypeId} {w w' : World} {row : Option Nat} (h : w.grownBy w' row) (hr : ∀ b, row = some b → B ≤ b ∧ ∃ cs fr, w.heap[b]? = some (.cells cs T fr)) : Spares B T w w' :=
  ⟨h.os, h.tape, h.output, h.size, fun i hi hd => h.block i hi fun e => by
    obtain ⟨h1, cs, fr, h2⟩ := hr i e.symm
    rcases hd with hd | hd
    · omega
    · exact hd cs fr h2⟩
theorem Spares.row {B : Nat} {T : TypeId} {w w' : World} {k : Nat} {v : Value} {n : Nat} {xs : List Value} (h : w.grownBy w' v.ownBlock) (ho : w.ownsRow B T k v n xs) : Spares B T w w' :=
  .of_grown h fun b hb => ⟨(ho.lt b hb).1, by obtain ⟨c, hc⟩ := bk_block ho hb; exact ⟨c, _, hc⟩⟩
theorem Spares.below {B C : Nat} {T : TypeId} {a w w' : World} (h : Spares C T w w') (hb : Below B a w) (hBC : B ≤ C) (hs : B ≤ w.heap.size) : Below B a w' :=
  hb.trans ⟨h.os, h.tape, h.output, h.size, fun k hk => h.block k (by omega) (.inl (by omega))⟩
theorem Spares.bx {B : Nat} {T T' : TypeId} {w w' : World} {g : Nat} {cs : Array Value} (h : Spares B T w w') (hx : Bx w g T' cs) (hne : T' ≠ T) : Bx w' g T' cs :=
  ⟨(h.block g hx.lt (.inr fun c fr e => by rw [hx.blk] at e; injection e with e; injection e with _ e; exact hne e)).trans hx.blk⟩
theorem Spares.own {B C : Nat} {T e : TypeId} {w w' : World} {k : Nat} {v : Value} {n : Nat} {xs : List Value} (h : Spares B T w w') (hx : w.ownsRow C e k v n xs) (hne : e ≠ T) : w'.ownsRow C e k v n xs := by
  refine ⟨hx.1, ?_⟩
  rcases hx.2 with hn | ⟨g, cap, cur, rfl, hb, hg, rest⟩
  · exact .inl hn
  · exact .inr ⟨g, cap, cur, rfl, hb, (h.block g (lt_of_block hg) (.inr fun c fr e' => by rw [hg] at e'; injection e' with e'; injection e' with _ e'; exact hne e')).trans hg, rest⟩

/-! Lists of rows, none beside another's. -/
section
variable {α : Type} (enc : α → List Value) (T : TypeId) (k : Nat)
/-- Each of the slices is a row of the call's own that holds its list; no two lie in one block. -/
structure Kept (w : World) (B : Nat) (vs : List Value) (ls : List (List α)) : Prop where
  len : vs.length = ls.length
  own : ∀ (i : Nat) (v : Value) (l : List α), vs[i]? = some v → ls[i]? = some l → w.ownsRow B T k v l.length (l.flatMap enc)
  few : ∀ l ∈ ls, l.length ≤ 100000
  apart : ∀ (i j : Nat) (v u : Value), vs[i]? = some v → vs[j]? = some u → i ≠ j → v.ownBlock = none ∨ v.ownBlock ≠ u.ownBlock
end
section
variable {α : Type} {enc : α → List Value} {T : TypeId} {k : Nat}
theorem Kept.nil (w : World) (B : Nat) : Kept enc T k w B [] [] := ⟨rfl, by simp, by simp, by simp⟩
theorem Kept.at_ {w : World} {B : Nat} {vs : List Value} {ls : List (List α)} (h : Kept enc T k w B vs ls) {i : Nat} (hi : i < vs.length) : ∃ v l, vs[i]? = some v ∧ ls[i]? = some l ∧ w.ownsRow B T k v l.length (l.flatMap enc) ∧ l.length ≤ 100000 := by
  have hi' : i < ls.length := by rw [← h.len]; exact hi
  exact ⟨vs[i], ls[i], List.getElem?_eq_getElem hi, List.getElem?_eq_getElem hi', h.own _ _ _ (List.getElem?_eq_getElem hi) (List.getElem?_eq_getElem hi'), h.few _ (List.getElem_mem hi')⟩
theorem Kept.of_own {w w' : World} {B : Nat} {vs : List Value} {ls : List (List α)} (h : Kept enc T k w B vs ls) (hk : ∀ (i : Nat) (v : Value) (l : List α), vs[i]? = some v → ls[i]? = some l → w.ownsRow B T k v l.length (l.flatMap enc) → w'.ownsRow B T k v l.length (l.flatMap enc)) : Kept enc T k w' B vs ls :=
  ⟨h.len, fun i v l hv hl => hk i v l hv hl (h.own i v l hv hl), h.few, h.apart⟩
theorem Kept.below {w w' : World} {B : Nat} {vs : List Value} {ls : List (List α)} (h : Kept enc T k w B vs ls) (hb : Below w.heap.size w w') : Kept enc T k w' B vs ls := h.of_own fun _ _ _ _ _ ho => bk_below ho hb
theorem Kept.grown {w w' : World} {B : Nat} {vs : List Value} {ls : List (List α)} (h : Kept enc T k w B vs ls) {B' : Nat} {e : TypeId} {k' n : Nat} {u : Value} {xs : List Value} (ho : w.ownsRow B' e k' u n xs) (hg : w.grownBy w' u.ownBlock) (hne : T ≠ e) : Kept enc T k w' B vs ls :=
  h.of_own fun _ _ _ _ _ h1 => h1.kept hg (bk_apart h1 ho hne)
theorem Kept.spared {w w' : World} {B C : Nat} {e : TypeId} {vs : List Value} {ls : List (List α)} (h : Kept enc T k w B vs ls) (hs : Spares C e w w') (hne : T ≠ e) : Kept enc T k w' B vs ls := h.of_own fun _ _ _ _ _ h1 => hs.own h1 hne
/-- One of the rows is written anew, in its own block. -/
theorem Kept.set {w w' : World} {B : Nat} {vs : List Value} {ls : List (List α)} (h : Kept enc T k w B vs ls) {i : Nat} {v : Value} {l l' : List α} (hv : vs[i]? = some v) (hl : ls[i]? = some l) (hg : w.grownBy w' v.ownBlock) (ho : w'.ownsRow B T k v l'.length (l'.flatMap enc)) (hn : l'.length = l.length) : Kept enc T k w' B vs (ls.set i l') := by
  have hi : i < ls.length := (List.getElem?_eq_some_iff.1 hl).1
  refine ⟨by simpa using h.len, fun j u m hu hm => ?_, fun m hm => ?_, h.apart⟩
  · by_cases e : i = j
    · subst e
      rw [List.getElem?_set_self hi] at hm
      rw [hv] at hu
      cases hu; cases hm
      exact ho
    · rw [List.getElem?_set_ne e] at hm
      exact (h.own j u m hu hm).kept hg (h.apart j i u v hu hv (Ne.symm e))
  · rcases List.mem_or_eq_of_mem_set hm with h1 | h1
    · exact h.few _ h1
    · subst h1; rw [hn]; exact h.few _ (List.mem_of_getElem? hl)
/-- One row more, made behind all of them. -/
theorem Kept.push {w : World} {B : Nat} {vs : List Value} {ls : List (List α)} (h : Kept enc T k w B vs ls) {v : Value} {l : List α} (ho : w.ownsRow B T k v l.length (l.flatMap enc)) (hn : l.length ≤ 100000)
    (ha : ∀ (i : Nat) (u : Value), vs[i]? = some u → u.ownBlock = none ∨ u.ownBlock ≠ v.ownBlock) : Kept enc T k w B (vs ++ [v]) (ls ++ [l]) := by
  have hl := h.len
  have hlast : ∀ {β : Type} (xs : List β) (x y : β) (i : Nat), (xs ++ [x])[i]? = some y → (i < xs.length ∧ xs[i]? = some y) ∨ (i = xs.length ∧ y = x) := by
    intro β xs x y i he
    by_cases hi : i < xs.length
    · exact .inl ⟨hi, by rwa [List.getElem?_append_left hi] at he⟩
    · rw [List.getElem?_append_right (by omega)] at he
      have := (List.getElem?_eq_some_iff.1 he).1
      simp at this
      have e0 : i - xs.length = 0 := by omega
      rw [e0] at he
      simp at he
      exact .inr ⟨by omega, he.symm⟩
  refine ⟨by simp [hl], fun i u m hu hm => ?_, fun m hm => ?_, fun i j u u' hu hu' hij => ?_⟩
  · rcases hlast _ _ _ _ hu with ⟨h1, h2⟩ | ⟨h1, rfl⟩ <;> rcases hlast _ _ _ _ hm with ⟨h3, h4⟩ | ⟨h3, rfl⟩
    · exact h.own i u m h2 h4
    · omega
    · omega
    · exact ho
  · rcases List.mem_append.1 hm with h1 | h1
    · exact h.few _ h1
    · simp at h1; subst h1; exact hn
  · rcases hlast _ _ _ _ hu with ⟨h1, h2⟩ | ⟨h1, rfl⟩ <;> rcases hlast _ _ _ _ hu' with ⟨h3, h4⟩ | ⟨h3, rfl⟩
    · exact h.apart i j u u' h2 h4 hij
    · exact ha i u h2
    · rcases ha j u' h4 with h5 | h5
      · cases hv : u.ownBlock with
        | none => exact .inl rfl
        | some b => exact .inr (by rw [h5]; simp)
      · exact .inr (Ne.symm h5)
    · omega
end

/-! Elements stored one by one. -/
def setL (xs : List Value) (o : Nat) : List Value → List Value
  | [] => xs
  | v :: r => setL (xs.set o v) (o + 1) r
theorem setL_len (vs : List Value) : ∀ (xs : List Value) (o : Nat), (setL xs o vs).length = xs.length := by
  induction vs with
  | nil => intros; rfl
  | cons v r ih => intro xs o; rw [setL, ih]; simp
theorem setL_skip (A : List Value) (vs : List Value) : ∀ (R : List Value) (o : Nat), setL (A ++ R) (A.length + o) vs = A ++ setL R o vs := by
  induction vs with
  | nil => intros; rfl
  | cons v r ih =>
    intro R o
    rw [setL, setL, List.set_append_right _ _ (by omega), Nat.add_sub_cancel_left, Nat.add_assoc, ih]
theorem setL_head (vs : List Value) : ∀ (ys R : List Value), ys.length = vs.length → setL (ys ++ R) 0 vs = vs ++ R := by
  induction vs with
  | nil => intro ys R h; have := List.eq_nil_of_length_eq_zero h; subst this; rfl
  | cons v r ih =>
    intro ys R h
    cases ys with
    | nil => simp at h
    | cons a s =>
      rw [setL]
      have := setL_skip [v] r (s ++ R) 0
      simp only [List.length_cons, List.length_nil, Nat.zero_add, Nat.add_zero] at this
      show setL ([v] ++ (s ++ R)) 1 r = _
      rw [this, ih s R (by simpa using h)]; rfl
theorem setL_flat {α : Type} {enc : α → List Value} {k : Nat} (hk : ∀ x, (enc x).length = k) (x : α) : ∀ (l : List α) (j : Nat), j < l.length → setL (l.flatMap enc) (j * k) (enc x) = (l.set j x).flatMap enc
  | [], j, h => by simp at h
  | a :: r, 0, _ => by
    rw [Nat.zero_mul, List.flatMap_cons, List.set_cons_zero, List.flatMap_cons]
    exact setL_head _ _ _ (by rw [hk, hk])
  | a :: r, j + 1, h => by
    rw [List.flatMap_cons, List.set_cons_succ, List.flatMap_cons, ← setL_flat hk x r j (by simpa using h)]
    have e : (j + 1) * k = (enc a).length + j * k := by rw [hk, Nat.add_mul]; omega
    rw [e, setL_skip]
theorem bk_setCells {B : Nat} {e : TypeId} {size g n cap : Nat} (vs : List Value) : ∀ (w : World) (o : Nat) (xs : List Value), w.ownsRow B e size (.slice (some ⟨g, 0, none⟩) n cap) n xs →
    (w.setCells g o vs).ownsRow B e size (.slice (some ⟨g, 0, none⟩) n cap) n (setL xs o vs) ∧ w.grownBy (w.setCells g o vs) (some g) := by
  induction vs with
  | nil => intro w o xs h; exact ⟨h, World.grownBy.refl w _⟩
  | cons v r ih =>
    intro w o xs h
    obtain ⟨h1, h2⟩ := h.stored o v
    obtain ⟨h3, h4⟩ := ih _ (o + 1) _ h1
    refine ⟨h3, ?_⟩
    exact ⟨h4.os.trans h2.os, h4.tape.trans h2.tape, h4.output.trans h2.output, Nat.le_trans h2.size h4.size, fun i hi hne => (h4.block i (Nat.lt_of_lt_of_le hi h2.size) hne).trans (h2.block i hi hne)⟩
/-- An element stored into a row. -/
theorem bk_put {α : Type} {enc : α → List Value} {k : Nat} (hk : ∀ x, (enc x).length = k) {w : World} {B : Nat} {e : TypeId} {g cap : Nat} {l : List α} (h : w.ownsRow B e k (.slice (some ⟨g, 0, none⟩) l.length cap) l.length (l.flatMap enc)) (j : Nat) (hj : j < l.length) (x : α) :
    (w.setCells g (j * k) (enc x)).ownsRow B e k (.slice (some ⟨g, 0, none⟩) l.length cap) l.length ((l.set j x).flatMap enc) ∧ w.grownBy (w.setCells g (j * k) (enc x)) (some g) := by
  have := bk_setCells (enc x) w (j * k) _ h
  rwa [setL_flat hk x l j hj] at this

/-! Marks. -/
section
variable {α : Type} (mk : Nat → Nat → α)
/-- The marks of list i, from a place on. -/
def marks (i : Nat) : Nat → Nat → List α
  | _, 0 => []
  | from_, n + 1 => mk i from_ :: marks i (from_ + 1) n
theorem marks_len (i : Nat) : ∀ (n f : Nat), (marks mk i f n).length = n
  | 0, _ => rfl
  | n + 1, f => by rw [marks, List.length_cons, marks_len i n]
theorem marks_add (i : Nat) : ∀ (n m f : Nat), marks mk i f (n + m) = marks mk i f n ++ marks mk i (f + n) m
  | 0, m, f => by simp [marks]
  | n + 1, m, f => by
    rw [show n + 1 + m = (n + m) + 1 by omega, marks, marks, marks_add i n m, List.cons_append, show f + 1 + n = f + (n + 1) by omega]
theorem marks_succ (i n f : Nat) : marks mk i f (n + 1) = marks mk i f n ++ [mk i (f + n)] := by rw [marks_add]; rfl
theorem marks_join (i s m : Nat) : marks mk i 0 s ++ marks mk i s m = marks mk i 0 (s + m) := by rw [marks_add, Nat.zero_add]
theorem marks_get (i n f j : Nat) (h : j < n) : (marks mk i f n)[j]? = some (mk i (f + j)) := by
  have e : n = j + (1 + (n - j - 1)) := by omega
  rw [e, marks_add, List.getElem?_append_right (by rw [marks_len]; omega), marks_len, Nat.sub_self, marks_add]; rfl
/-- A list whose head has been marked. -/
def marked (i j : Nat) (l : List α) : List α := marks mk i 0 j ++ l.drop j
theorem marked_len (i j : Nat) (l : List α) (h : j ≤ l.length) : (marked mk i j l).length = l.length := by simp [marked, marks_len]; omega
theorem marked_zero (i : Nat) (l : List α) : marked mk i 0 l = l := by simp [marked, marks]
theorem marked_all (i : Nat) (l : List α) : marked mk i l.length l = marks mk i 0 l.length := by simp [marked]
theorem marked_next (i j : Nat) (l : List α) (h : j < l.length) : (marked mk i j l).set j (mk i j) = marked mk i (j + 1) l := by
  unfold marked
  rw [List.set_append_right _ _ (by rw [marks_len]; exact Nat.le_refl _), marks_len, Nat.sub_self, marks_succ, List.drop_eq_getElem_cons h, List.set_cons_zero, Nat.zero_add]
  simp
/-- All lists marked. -/
def marksAll : Nat → List (List α) → List (List α)
  | _, [] => []
  | i, l :: r => marks mk i 0 l.length :: marksAll (i + 1) r
theorem marksAll_len : ∀ (ls : List (List α)) (i : Nat), (marksAll mk i ls).length = ls.length
  | [], _ => rfl
  | l :: r, i => by rw [marksAll, List.length_cons, marksAll_len r, List.length_cons]
theorem marksAll_get : ∀ (ls : List (List α)) (i j : Nat) (l : List α), ls[j]? = some l → (marksAll mk i ls)[j]? = some (marks mk (i + j) 0 l.length)
  | [], _, _, _, h => by simp at h
  | a :: r, i, 0, l, h => by simp at h; subst h; rfl
  | a :: r, i, j + 1, l, h => by
    rw [marksAll, List.getElem?_cons_succ, marksAll_get r (i + 1) j l (by simpa using h), show i + 1 + j = i + (j + 1) by omega]
end
/-- The first lists marked. -/
def marksTo {α : Type} (mk : Nat → Nat → α) (i j : Nat) (ls : List (List α)) : List (List α) := marksAll mk i (ls.take j) ++ ls.drop j
section
variable {α : Type} (mk : Nat → Nat → α)
theorem marksAll_append (xs ys : List (List α)) : ∀ i, marksAll mk i (xs ++ ys) = marksAll mk i xs ++ marksAll mk (i + xs.length) ys := by
  induction xs with
  | nil => intro i; rfl
  | cons a r ih => intro i; rw [List.cons_append, marksAll, marksAll, ih, List.cons_append, List.length_cons, show i + 1 + r.length = i + (r.length + 1) by omega]
theorem marksTo_zero (i : Nat) (ls : List (List α)) : marksTo mk i 0 ls = ls := by simp [marksTo, marksAll]
theorem marksTo_all {n : Nat} {ls : List (List α)} (h : ls.length ≤ n) : marksTo mk 0 n ls = marksAll mk 0 ls := by unfold marksTo; rw [List.take_of_length_le h, List.drop_eq_nil_of_le h, List.append_nil]
theorem marksTo_at (ls : List (List α)) (j : Nat) : (marksTo mk 0 j ls)[j]? = ls[j]? := by
  unfold marksTo
  by_cases h : j ≤ ls.length
  · rw [List.getElem?_append_right (by rw [marksAll_len, List.length_take]; omega), marksAll_len, List.length_take, Nat.min_eq_left h, Nat.sub_self, List.getElem?_drop]; rfl
  · rw [List.getElem?_eq_none (by rw [List.length_append, marksAll_len, List.length_take, List.length_drop]; omega), List.getElem?_eq_none (by omega)]
theorem marksTo_next {ls : List (List α)} {j : Nat} {l : List α} (h : ls[j]? = some l) : (marksTo mk 0 j ls).set j (marks mk j 0 l.length) = marksTo mk 0 (j + 1) ls := by
  have hj : j < ls.length := (List.getElem?_eq_some_iff.1 h).1
  have hl : ls[j] = l := (List.getElem?_eq_some_iff.1 h).2
  unfold marksTo
  rw [List.set_append_right _ _ (by rw [marksAll_len, List.length_take]; omega), marksAll_len, List.length_take, Nat.min_eq_left (by omega), Nat.sub_self, List.drop_eq_getElem_cons hj, List.set_cons_zero, List.take_succ_eq_append_getElem hj, marksAll_append, List.length_take, Nat.min_eq_left (by omega), Nat.zero_add, hl]
  simp [marksAll]
end
theorem bk_set_self {α : Type} {l : List α} {j : Nat} {x : α} (h : l[j]? = some x) : l.set j x = l := by
  apply List.ext_getElem?
  intro i
  by_cases e : j = i
  · subst e
    rw [List.getElem?_set_self (List.getElem?_eq_some_iff.1 h).1, h]
  · rw [List.getElem?_set_ne e]
theorem bk_some {w : World} {B : Nat} {e : TypeId} {size g n cap : Nat} {xs : List Value} (h : w.ownsRow B e size (.slice (some ⟨g, 0, none⟩) n cap) n xs) {j : Nat} (hj : j < n * size) : ∃ z, w.cell? ⟨g, j, none⟩ = some z := by
  rw [h.cellAt j hj]
  exact ⟨_, List.getElem?_eq_getElem (by rw [h.1]; exact hj)⟩
/-- A row that no block bears is empty. -/
theorem bk_none {w : World} {B : Nat} {e : TypeId} {k : Nat} {v : Value} {n : Nat} {xs : List Value} (h : w.ownsRow B e k v n xs) (hv : v.ownBlock = none) : n = 0 := by
  rcases h.2 with ⟨_, h0⟩ | ⟨g, cap, cur, rfl, _⟩
  · exact h0
  · simp [Value.ownBlock] at hv
theorem Kept.leaves {α : Type} {enc : α → List Value} {T : TypeId} {k : Nat} {w w' : World} {B : Nat} {vs : List Value} {ls : List (List α)} (h : Kept enc T k w B vs ls) {lv : Value} {nl : Nat} (hL : Leaves T k lv nl w w')
    (ha : ∀ (i : Nat) (v : Value) (l : List α), vs[i]? = some v → ls[i]? = some l → l.length ≤ nl ∨ v.ownBlock = none ∨ v.ownBlock ≠ lv.ownBlock) : Kept enc T k w' B vs ls :=
  h.of_own fun i v l hv hl ho => hL B v l.length _ ho (by
    rcases ha i v l hv hl with h1 | h1 | h1
    · exact .inl h1
    · exact .inl (by rw [bk_none ho h1]; exact Nat.zero_le _)
    · exact .inr h1)
theorem Kept.lt {α : Type} {enc : α → List Value} {T : TypeId} {k : Nat} {w : World} {B : Nat} {vs : List Value} {ls : List (List α)} (h : Kept enc T k w B vs ls) (i : Nat) (v : Value) (hv : vs[i]? = some v) (b : Nat) (hb : v.ownBlock = some b) : b < w.heap.size := by
  obtain ⟨v', l, h1, _, h3, _⟩ := h.at_ (List.getElem?_eq_some_iff.1 hv).1
  rw [hv] at h1
  cases h1
  exact (h3.lt b hb).2
/-- Where a slice lies that is being grown: in the block of the list it began as, or in a newer one. -/
def Lies (C : Nat) (u o : Value) : Prop := o.ownBlock = u.ownBlock ∨ ∀ b, o.ownBlock = some b → C ≤ b
theorem Lies.step {C : Nat} {u o o' : Value} {s : Nat} (h : Lies C u o) (hs : C ≤ s) (ha : o'.ownBlock = o.ownBlock ∨ o'.ownBlock = some s) : Lies C u o' := by
  rcases ha with ha | ha
  · rcases h with h | h
    · exact .inl (ha.trans h)
    · exact .inr fun b hb => h b (by rw [← ha]; exact hb)
  · exact .inr fun b hb => by rw [ha] at hb; cases hb; exact hs
theorem Lies.low {C C' : Nat} {u o : Value} (h : Lies C u o) (hc : C' ≤ C) : Lies C' u o := h.imp id fun h b hb => Nat.le_trans hc (h b hb)
/-- The lists that stand are apart from the one that is being grown. -/
theorem bk_apart_kept {α : Type} {enc : α → List Value} {T : TypeId} {k : Nat} {w : World} {B C : Nat} {vs : List Value} {ls : List (List α)} (K : Kept enc T k w B vs ls) (hC : w.heap.size ≤ C) {j : Nat} {u o : Value} (hu : vs[j]? = some u) (h : Lies C u o) {nl : Nat} {l0 : List α} (hl0 : ls[j]? = some l0) (hn : l0.length ≤ nl) :
    ∀ (i : Nat) (v : Value) (l : List α), vs[i]? = some v → ls[i]? = some l → l.length ≤ nl ∨ v.ownBlock = none ∨ v.ownBlock ≠ o.ownBlock := by
  intro i v l hv hl
  by_cases e : i = j
  · subst e
    rw [hl0] at hl
    cases hl
    exact .inl hn
  · refine .inr ?_
    rcases h with h | h
    · rw [h]; exact K.apart i j v u hv hu e
    · cases hb : v.ownBlock with
      | none => exact .inl rfl
      | some b =>
        refine .inr fun e2 => ?_
        have h1 := h b e2.symm
        have h2 := K.lt i v hv b hb
        omega
theorem bk_apart_outs {α : Type} {enc : α → List Value} {T : TypeId} {k : Nat} {w0 w9 : World} {B : Nat} {vs os : List Value} {ls ms : List (List α)} (K : Kept enc T k w0 B vs ls) (KO : Kept enc T k w9 B os ms) {j : Nat} {u o : Value} (hu : vs[j]? = some u) (h : Lies w9.heap.size u o) (hj : os.length = j)
    (hloc : ∀ (i : Nat) (x v : Value), os[i]? = some x → vs[i]? = some v → Lies w0.heap.size v x) (hle : j ≤ vs.length) :
    ∀ (i : Nat) (x : Value), os[i]? = some x → x.ownBlock = none ∨ x.ownBlock ≠ o.ownBlock := by
  intro i x hx
  have hi := (List.getElem?_eq_some_iff.1 hx).1
  have hv : vs[i]? = some (vs[i]'(by omega)) := List.getElem?_eq_getElem _
  generalize vs[i]'(by omega) = v at hv
  have hne : i ≠ j := by omega
  cases hb : x.ownBlock with
  | none => exact .inl rfl
  | some b =>
    refine .inr fun e2 => ?_
    have hb9 := KO.lt i x hx b hb
    have hu0 := fun c hc => K.lt j u hu c hc
    rcases hloc i x v hx hv with h1 | h1
    · have hv0 := K.lt i v hv b (by rw [← h1]; exact hb)
      rcases h with h2 | h2
      · rcases K.apart i j v u hv hu hne with h3 | h3
        · rw [← h1, hb] at h3; cases h3
        · exact h3 (by rw [← h1, hb, e2, h2])
      · have := h2 b e2.symm
        omega
    · have h4 := h1 b hb
      rcases h with h2 | h2
      · have := hu0 b (by rw [← h2]; exact e2.symm)
        omega
      · have := h2 b e2.symm
        omega
theorem bk_snoc {β : Type} {xs : List β} {x : β} {P : Nat → β → Prop} (h : ∀ i y, xs[i]? = some y → P i y) (hx : P xs.length x) : ∀ i y, (xs ++ [x])[i]? = some y → P i y := by
  intro i y hy
  by_cases hi : i < xs.length
  · exact h i y (by rwa [List.getElem?_append_left hi] at hy)
  · rw [List.getElem?_append_right (by omega)] at hy
    have h1 := (List.getElem?_eq_some_iff.1 hy).1
    simp at h1
    have e0 : i - xs.length = 0 := by omega
    rw [e0] at hy
    simp at hy
    subst hy
    have : i = xs.length := by omega
    subst this
    exact hx
/-- What a call leaves that touches the book and its lists of lists alone. -/
structure Stands (B g : Nat) (T : TypeId) (w w' : World) : Prop where
  os : w'.os = w.os
  tape : w'.tape = w.tape
  output : w'.output = w.output
  size : w.heap.size ≤ w'.heap.size
  block : ∀ b, b < w.heap.size → b ≠ g → (b < B ∨ ∀ cs fr, w.heap[b]? ≠ some (.cells cs T fr)) → w'.heap[b]? = w.heap[b]?
theorem Stands.below {B B' g : Nat} {T : TypeId} {w w' : World} (h : Stands B g T w w') (h1 : B' ≤ B) (h2 : B' ≤ g) (h3 : B' ≤ w.heap.size) : Below B' w w' := ⟨h.os, h.tape, h.output, h.size, fun b hb => h.block b (by omega) (by omega) (.inl (by omega))⟩
theorem Stands.own {B g C : Nat} {T TB e : TypeId} {w w' : World} {k : Nat} {v : Value} {n : Nat} {xs : List Value} {fs : Array Value} (h : Stands B g T w w') (hB : Bx w g TB fs) (hx : w.ownsRow C e k v n xs) (hne : e ≠ T) (hne2 : TB ≠ e) : w'.ownsRow C e k v n xs := by
  have h0 := hB.not_row hx hne2
  refine ⟨hx.1, ?_⟩
  rcases hx.2 with hn | ⟨g', cap, cur, rfl, hb, hg, rest⟩
  · exact .inl hn
  · exact .inr ⟨g', cap, cur, rfl, hb, (h.block g' (lt_of_block hg) (fun e => h0 (by rw [e]; rfl)) (.inr fun c fr e' => by rw [hg] at e'; injection e' with e'; injection e' with _ e'; exact hne e')).trans hg, rest⟩
theorem Kept.stands {α : Type} {enc : α → List Value} {T : TypeId} {k : Nat} {w w' : World} {B C g : Nat} {e TB : TypeId} {fs : Array Value} {vs : List Value} {ls : List (List α)} (h : Kept enc T k w B vs ls) (hs : Stands C g e w w') (hB : Bx w g TB fs) (hne : T ≠ e) (hne2 : TB ≠ T) : Kept enc T k w' B vs ls := h.of_own fun _ _ _ _ _ h1 => hs.own hB h1 hne hne2
theorem marks_mem {α : Type} (mk : Nat → Nat → α) (i : Nat) (t : α) : ∀ (n f : Nat), t ∈ marks mk i f n → ∃ j, f ≤ j ∧ j < f + n ∧ t = mk i j
  | 0, _, h => by simp [marks] at h
  | n + 1, f, h => by
    rw [marks] at h
    rcases List.mem_cons.1 h with h | h
    · exact ⟨f, by omega, by omega, h⟩
    · obtain ⟨j, h1, h2, h3⟩ := marks_mem mk i t n (f + 1) h
      exact ⟨j, by omega, by omega, h3⟩
/-- A list of slices read at a place. -/
theorem bk_get {α : Type} {enc : α → List Value} {T TL : TypeId} {k : Nat} {w : World} {B B' : Nat} {A : Option Addr} {n c : Nat} {vs : List Value} {ls : List (List α)} (r : w.ownsRow B TL 1 (.slice A n c) n vs) (K : Kept enc T k w B' vs ls) {j : Nat} (hj : j < n) :
    ∃ b l A' c', A = some ⟨b, 0, none⟩ ∧ b < w.heap.size ∧ ls[j]? = some l ∧ w.cell? ⟨b, j, none⟩ = some (.slice A' l.length c') ∧ vs[j]? = some (.slice A' l.length c') ∧ Sl w A' (l.flatMap enc) ∧ l.length ≤ 100000 := by
  have hl : vs.length = n := by have := r.1; omega
  obtain ⟨v, l, h1, h2, h3, h4⟩ := K.at_ (i := j) (by omega)
  obtain ⟨A', c', rfl, hs⟩ := bk_sl h3
  rcases r.2 with ⟨e, h0⟩ | ⟨g, cap, cur, e, _, hg, _⟩
  · omega
  · injection e with e1 e2 e3
    subst e1 e3
    refine ⟨g, l, A', c', rfl, lt_of_block hg, h2, ?_, h1, hs, h4⟩
    rw [r.cellAt j (by omega), h1]
theorem Stands.refl (B g : Nat) (T : TypeId) (w : World) : Stands B g T w w := ⟨rfl, rfl, rfl, Nat.le_refl _, fun _ _ _ _ => rfl⟩
theorem Stands.trans {B g : Nat} {T : TypeId} {a b c : World} (h : Stands B g T a b) (k : Stands B g T b c) : Stands B g T a c :=
  ⟨k.os.trans h.os, k.tape.trans h.tape, k.output.trans h.output, Nat.le_trans h.size k.size, fun i hi hg hd => by
    have e1 := h.block i hi hg hd
    refine (k.block i (Nat.lt_of_lt_of_le hi h.size) hg ?_).trans e1
    rcases hd with hd | hd
    · exact .inl hd
    · exact .inr fun cs fr => by rw [e1]; exact hd cs fr⟩
theorem Stands.of_below {B g : Nat} {T : TypeId} {w w' : World} (h : Below w.heap.size w w') : Stands B g T w w' := ⟨h.os, h.tape, h.output, h.size, fun i hi _ _ => h.block i hi⟩
theorem Stands.row {B g : Nat} {T : TypeId} {w w' : World} {k : Nat} {v : Value} {n : Nat} {xs : List Value} (h : w.grownBy w' v.ownBlock) (ho : w.ownsRow B T k v n xs) : Stands B g T w w' :=
  have s := Spares.row h ho
  ⟨s.os, s.tape, s.output, s.size, fun i hi _ hd => s.block i hi hd⟩
theorem bk_grown_set (w : World) (g i : Nat) (v : Value) : w.grownBy (w.setCell ⟨g, i, none⟩ v) (some g) :=
  ⟨rfl, rfl, rfl, (KeepsWalks.setCell w _ v).size, fun k _ hk => Below.heap_setCell _ _ _ k (fun e => hk (by rw [e]))⟩
theorem Stands.set {B g : Nat} {T : TypeId} (w : World) (i : Nat) (v : Value) : Stands B g T w (w.setCell ⟨g, i, none⟩ v) :=
  have s := bk_grown_set w g i v
  ⟨s.os, s.tape, s.output, s.size, fun i hi hg _ => s.block i hi (fun e => hg (by cases e; rfl))⟩
theorem bk_two {a b a' b' : Option Nat} {s t : Nat} (h : a = none ∨ a ≠ b) (ha : a' = a ∨ a' = some s) (hb : b' = b ∨ b' = some t) (h1 : ∀ q, b = some q → q < s) (h2 : ∀ q, a' = some q → q < t) : a' = none ∨ a' ≠ b' := by
  cases e : a' with
  | none => exact .inl rfl
  | some q =>
    refine .inr fun e2 => ?_
    rcases hb with hb | hb
    · rcases ha with ha | ha
      · rcases h with h | h
        · rw [← ha, e] at h; cases h
        · exact h (by rw [← ha, e, e2, hb])
      · have := h1 q (by rw [← hb, ← e2])
        rw [ha] at e; cases e; omega
    · have := h2 q e
      rw [hb] at e2; cases e2; omega
theorem bk_other {a b : Option Nat} (h : a = none ∨ a ≠ b) : b = none ∨ b ≠ a := by
  cases b with
  | none => exact .inl rfl
  | some q => exact .inr (fun e => by rcases h with h | h; rw [h] at e; cases e; exact h e.symm)
theorem bk_fresh {a b : Option Nat} {s : Nat} (h : ∀ q, a = some q → q < s) (k : ∀ q, b = some q → s ≤ q) : a = none ∨ a ≠ b := by
  cases e : a with
  | none => exact .inl rfl
  | some q => exact .inr fun e2 => by have := h q e; have := k q e2.symm; omega
theorem marksAll_is {α : Type} (mk : Nat → Nat → α) {ls : List (List α)} {j : Nat} {l : List α} (h : (marksAll mk 0 ls)[j]? = some l) : l = marks mk j 0 l.length ∧ ∃ l0 ∈ ls, l.length = l0.length := by
  have hj : j < ls.length := by have := (List.getElem?_eq_some_iff.1 h).1; rwa [marksAll_len] at this
  have h2 := marksAll_get mk ls 0 j _ (List.getElem?_eq_getElem hj)
  rw [h, Nat.zero_add] at h2
  injection h2 with h2
  have h3 : l.length = ls[j].length := by rw [h2, marks_len]
  exact ⟨by rw [h3]; exact h2, _, List.getElem_mem hj, h3⟩
theorem marksAll_few {α : Type} (mk : Nat → Nat → α) {ls : List (List α)} {n : Nat} (h : ∀ l ∈ ls, l.length ≤ n) : ∀ l ∈ marksAll mk 0 ls, l.length ≤ n := by
  intro l hl
  obtain ⟨j, hj⟩ := List.mem_iff_getElem?.1 hl
  obtain ⟨_, l0, h0, e⟩ := marksAll_is mk hj
  rw [e]; exact h l0 h0
theorem Sl.left {w : World} {A : Option Addr} {xs ys : List Value} (h : Sl w A (xs ++ ys)) : Sl w A xs := by
  refine ⟨fun hne => ?_⟩
  obtain ⟨b, off, e, hb, hc⟩ := h.at_ (by simp [hne])
  exact ⟨b, off, e, hb, fun j u hu => hc j u (by rw [List.getElem?_append_left (List.getElem?_eq_some_iff.1 hu).1]; exact hu)⟩
theorem bk_last {α : Type} {enc : α → List Value} {k : Nat} (hk : ∀ x, (enc x).length = k) (l : List α) (x : α) (j : Nat) : ((l ++ [x]).flatMap enc)[l.length * k + j]? = (enc x)[j]? := by
  have e : (l.flatMap enc).length = l.length * k := by
    induction l with
    | nil => simp
    | cons a r ih => rw [List.flatMap_cons, List.length_append, ih, hk, List.length_cons, Nat.add_mul]; omega
  rw [List.flatMap_append, List.flatMap_singleton, List.getElem?_append_right (by rw [e]; omega), e, Nat.add_sub_cancel_left]
end Go.Proofs.YtcglbbabfkbcbadGreat
