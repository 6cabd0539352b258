/-
  PoolPlays: the pool's words in the law's.
-/
import Derived.Test.YtcglbbabfkbcbacPoolPlaysFr
namespace Go.Proofs.Ytcglbbabfkbcbac
open Go.RowKit Go.Maps

theorem wf_bd {z : Int} (h : (Lit.int .i64 z).wf = true) : -9223372036854775808 ≤ z ∧ z ≤ 9223372036854775807 := by
  have : IntKind.i64.min = -9223372036854775808 ∧ IntKind.i64.max = 9223372036854775807 := by decide
  simpa [Lit.wf, this.1, this.2] using h
section
variable {w0 w w' : World} {B g sb bk : Nat} {om : Option Nat} {fp n f : Int} {nn : Nat} {us S : List Int} {fs : Array Value} {ls : List (List Int)} {ob C mb mcap : Nat} {o : OpV}
theorem RdS.lent (h : RdS w0 w B g sb bk om fp n f nn us S fs ls ob C mb mcap o) (hn : o.len ≤ 60) : Ints w .i64 (some ⟨mb, 0, none⟩) o.len o.zs := by
  obtain ⟨A, c, e, hs⟩ := bk_sl h.m
  cases e
  rw [List.flatMap_append] at hs
  exact viewInts (Sl.left hs) h.z.len (by omega) h.z.wf
/-- What the law says of a pool's blocks, and the pool's own words in the law's. -/
structure LawP (fp F : Int) (N : Nat) (us : List Int) : Prop where
  rising : Rising us
  ins : ∀ z ∈ us, F ≤ z ∧ z < F + N
  take : ∀ q, takeOut fp N us q = takeOut F N us q
  mark : ∀ zs, markErr fp N us zs = markErr F N us zs ∧ markTo fp N us zs = markTo F N us zs
theorem PoolE.law {F : Int} (h : PoolE w g om fp nn us) (hF : fp = F ∨ nn = 0) : LawP fp F nn us := by
  by_cases h0 : nn = 0
  · subst h0
    have he : us = [] := by
      cases us with
      | nil => rfl
      | cons a r => have := h.ins a (by simp); omega
    subst he
    exact ⟨List.Pairwise.nil, by simp, fun q => take_none, fun zs => mark_none⟩
  · have e : fp = F := hF.resolve_right h0
    subst e
    exact ⟨h.rising, h.ins, fun _ => rfl, fun _ => ⟨rfl, rfl⟩⟩
theorem LawP.len {F : Int} {N : Nat} (h : LawP fp F N us) : (freeIn F us N).length + us.length = N := freeIn_len h.rising h.ins
theorem LawP.free {F : Int} {N : Nat} (h : LawP fp F N us) : ((freeTo F us N : Nat) : Int) = (N : Int) - us.length ∧ freeTo F us N = (freeIn F us N).length := by
  have h1 := freeTo_all h.rising h.ins
  have h2 := h.len
  exact ⟨h1, by omega⟩
theorem PoolE.mlt {fp n : Int} (h : PoolE w g om fp n us) : ∀ m, om = some m → m < w.heap.size := by
  intro m e
  subst e
  have h' : PoolAt w g m fp n us := h
  obtain ⟨es, c, h1, r⟩ := h'.set.own
  exact lt_of_block h1
end
/-- What is taken: how long it is, and which ones. -/
theorem take_bad {f n q : Int} {us : List Int} (h : q < 0) : takeOut f n us q = ([], 1) := if_pos h
theorem take_many {f n q : Int} {us : List Int} (h : ¬ q < 0) (h2 : n - us.length < q) : takeOut f n us q = ([], 20) := (if_neg h).trans (if_pos h2)
theorem take_good {f q : Int} {n : Nat} {us : List Int} (h : ¬ q < 0) (h2 : ¬ (n : Int) - us.length < q) : takeOut f n us q = ((freeIn f us n).take q.toNat, 0) := (if_neg h).trans (if_neg h2)
theorem LawP.tells {fp F : Int} {N : Nat} {us : List Int} (h : LawP fp F N us) (q : Int) : ∃ (T : List Int) (E : Int) (r : Nat), takeOut fp N us q = (T, E) ∧ T = (freeIn F us N).take r ∧ (∀ z ∈ T, F ≤ z ∧ z < F + N) ∧ T.length ≤ N ∧
    ((q < 0 ∧ E = 1 ∧ T.length = 0) ∨ (0 ≤ q ∧ (freeTo F us N : Int) < q ∧ E = 20 ∧ T.length = 0) ∨ (0 ≤ q ∧ q ≤ freeTo F us N ∧ E = 0 ∧ (T.length : Int) = q)) := by
  rw [h.take]
  obtain ⟨hf1, hf2⟩ := h.free
  by_cases h1 : q < 0
  · exact ⟨[], 1, 0, take_bad h1, by simp, by simp, by simp, .inl ⟨h1, rfl, rfl⟩⟩
  · by_cases h2 : (N : Int) - us.length < q
    · exact ⟨[], 20, 0, take_many h1 h2, by simp, by simp, by simp, .inr (.inl ⟨by omega, by omega, rfl, rfl⟩)⟩
    · have hl : ((freeIn F us N).take q.toNat).length = q.toNat := by rw [List.length_take]; omega
      have hle := freeTo_le F us N
      refine ⟨_, 0, q.toNat, take_good h1 h2, rfl, fun z hz => ?_, by omega, .inr (.inr ⟨by omega, by omega, rfl, by omega⟩)⟩
      have := mem_freeIn.1 (List.mem_of_mem_take hz)
      omega
/-- Where the taking stands at place t. -/
theorem take_at {F : Int} {us : List Int} {N t r : Nat} (ht : t < N) (ha : (freeIn F us t).length < ((freeIn F us N).take r).length) :
    (F + (t : Int) ∈ us → freeIn F us (t + 1) = freeIn F us t) ∧
    (F + (t : Int) ∉ us → (freeIn F us (t + 1)).length = (freeIn F us t).length + 1 ∧ ((freeIn F us N).take r)[(freeIn F us t).length]'ha = F + (t : Int) ∧
      insAll us (((freeIn F us N).take r).take ((freeIn F us t).length + 1)) = ins (F + (t : Int)) (insAll us (((freeIn F us N).take r).take (freeIn F us t).length))) :=
  ⟨fun h => take_used h, fun h => ⟨by rw [take_free h]; simp, take_get ht h ha, take_next ht h ha⟩⟩
theorem take_end {F : Int} {us : List Int} {N t r : Nat} (h : t = N ∨ ((freeIn F us N).take r).length ≤ (freeIn F us t).length) (ht : t ≤ N) : ((freeIn F us N).take r).take (freeIn F us t).length = (freeIn F us N).take r := by
  apply List.take_of_length_le
  rcases h with h | h
  · subst h; exact List.length_take_le' _ _
  · exact h
theorem ints_wf {F : Int} {N : Nat} {T : List Int} (h0 : 0 ≤ F) (h1 : F ≤ 4096) (hN : N ≤ 60) (h : ∀ z ∈ T, F ≤ z ∧ z < F + N) : ∀ z ∈ T, (Lit.int .i64 z).wf = true := fun z hz => by have := h z hz; exact bk_wf ⟨by omega, by omega⟩
theorem row_ints {w : World} {C : Nat} {A : Option Addr} {n c : Nat} {T : List Int} (h : w.ownsRow C 3 1 (.slice A n c) n (T.map (Value.int .i64))) {i : Nat} (hi : i < T.length) : ∃ b off, A = some ⟨b, off, none⟩ ∧ b < w.heap.size ∧ w.cell? ⟨b, off + i, none⟩ = some (.int .i64 T[i]) := by
  obtain ⟨A', c', e, hs⟩ := bk_sl h
  cases e
  obtain ⟨b, off, e, hb, hc⟩ := hs.get (j := i) (by rw [List.length_map]; exact hi)
  exact ⟨b, off, e, hb, by rw [hc]; simp⟩
/-- What the marking has found behind t of the list. -/
def MkS (F : Int) (N : Nat) (us zs : List Int) (t : Nat) (W : Int) : Prop :=
  (W = 15 ∧ zs.all (inR F N) = false) ∨ (W = 0 ∧ zs.all (inR F N) = true ∧ dupB us (zs.take t) = false) ∨ (W = 9 ∧ zs.all (inR F N) = true ∧ dupB us zs = true)
theorem mks_start (F : Int) (N : Nat) (us zs : List Int) : MkS F N us zs 0 (rngErr F N zs) := by
  unfold MkS rngErr
  by_cases h : zs.all (inR F N) = true
  · rw [if_pos h]; exact .inr (.inl ⟨rfl, h, by rw [List.take_zero]; exact dup_nil us⟩)
  · rw [if_neg h]; exact .inl ⟨rfl, by simpa using h⟩
theorem mks_end {F : Int} {N : Nat} {us zs : List Int} {t : Nat} {W : Int} (h : MkS F N us zs t W) (ht : W = 0 → t = zs.length) : W = markErr F N us zs ∧ (W = 0 ∨ W = 9 ∨ W = 15) ∧ (W = 0 → (∀ z ∈ zs, F ≤ z ∧ z < F + N) ∧ markTo F N us zs = insAll us zs) ∧ (W ≠ 0 → markTo F N us zs = us) := by
  rcases h with ⟨rfl, h1⟩ | ⟨rfl, h1, h2⟩ | ⟨rfl, h1, h2⟩
  · have hm : markErr F N us zs = 15 := by unfold markErr; rw [if_neg (by rw [h1]; simp)]
    exact ⟨hm.symm, by omega, by omega, fun _ => by unfold markTo; rw [hm]; rfl⟩
  · rw [ht rfl, List.take_length] at h2
    have hm := mark_ok h1 h2
    exact ⟨hm.1.symm, by omega, fun _ => ⟨fun z hz => by have := List.all_eq_true.1 h1 z hz; simpa [inR] using this, hm.2⟩, fun e => absurd rfl e⟩
  · have hm := mark_dup h1 h2
    exact ⟨hm.1.symm, by omega, by omega, fun _ => hm.2⟩
theorem mks_next {F : Int} {N : Nat} {us zs : List Int} {t : Nat} (h : MkS F N us zs t 0) (ht : t < zs.length) : (F ≤ zs[t] ∧ zs[t] < F + N) ∧ ((decide (zs[t] ∈ us) || seenTo zs[t] zs t) = true → MkS F N us zs (t + 1) 9) ∧ ((decide (zs[t] ∈ us) || seenTo zs[t] zs t) = false → MkS F N us zs (t + 1) 0) := by
  rcases h with ⟨h, _⟩ | ⟨_, h1, h2⟩ | ⟨h, _, _⟩
  · omega
  · refine ⟨by have := List.all_eq_true.1 h1 zs[t] (List.getElem_mem ht); simpa [inR] using this, fun hb => .inr (.inr ⟨rfl, h1, ?_⟩), fun hb => .inr (.inl ⟨rfl, h1, ?_⟩)⟩
    · refine dup_there ht ?_
      simp [seenTo] at hb
      exact hb.symm
    · simp [seenTo] at hb
      exact dup_next ht h2 hb.2 hb.1
  · omega
/-- The range of one more of the list. -/
theorem rng_at {F : Int} {N : Nat} {zs : List Int} {t : Nat} (h : t < zs.length) : ((F ≤ zs[t] ∧ zs[t] < F + N) → rngErr F N (zs.take (t + 1)) = rngErr F N (zs.take t)) ∧ (¬ (F ≤ zs[t] ∧ zs[t] < F + N) → rngErr F N (zs.take (t + 1)) = 15) :=
  ⟨fun h1 => rng_in h (decide_eq_true h1), fun h1 => rng_out h (decide_eq_false h1)⟩
theorem rng_few (F : Int) (N : Nat) (zs : List Int) : rngErr F N zs = 0 ∨ rngErr F N zs = 15 := by unfold rngErr; split <;> simp
theorem insAll_at {us zs : List Int} {t : Nat} (h : t < zs.length) : insAll us (zs.take (t + 1)) = ins zs[t] (insAll us (zs.take t)) := by
  rw [List.take_succ_eq_append_getElem h, insAll_snoc]
theorem rng_zero (F : Int) (N : Nat) (zs : List Int) : rngErr F N (zs.take 0) = 0 := by simp [rngErr]
theorem mark_tells (F : Int) (N : Nat) (us zs : List Int) : (markErr F N us zs = 0 ∨ markErr F N us zs = 9 ∨ markErr F N us zs = 15) ∧ (markErr F N us zs = 0 → (∀ z ∈ zs, F ≤ z ∧ z < F + N) ∧ markTo F N us zs = insAll us zs) ∧ (markErr F N us zs ≠ 0 → markTo F N us zs = us) := by
  by_cases h1 : zs.all (inR F N) = true
  · cases h2 : dupB us zs with
    | true =>
      have h := mks_end (t := zs.length) (.inr (.inr ⟨rfl, h1, h2⟩) : MkS F N us zs zs.length 9) (fun _ => rfl)
      rw [← h.1]; exact h.2
    | false =>
      have h := mks_end (t := zs.length) (.inr (.inl ⟨rfl, h1, by rw [List.take_length]; exact h2⟩) : MkS F N us zs zs.length 0) (fun _ => rfl)
      rw [← h.1]; exact h.2
  · have h := mks_end (t := zs.length) (.inl ⟨rfl, by simpa using h1⟩ : MkS F N us zs zs.length 15) (fun _ => rfl)
    rw [← h.1]; exact h.2
theorem ints_cells {w : World} {A : Option Addr} {n : Nat} {zs : List Int} (h : Ints w .i64 A n zs) (hn : 0 < n) : ∃ b off, A = some ⟨b, off, none⟩ ∧ b < w.heap.size ∧ ∀ i (hi : i < zs.length), w.cell? ⟨b, off + i, none⟩ = some (.int .i64 zs[i]) := by
  have h1 := h.len
  obtain ⟨b, off, e, hb, hc⟩ := h.sl.at_ (by intro e; have := congrArg List.length e; simp at this; subst this; simp at h1; omega)
  exact ⟨b, off, e, hb, fun i hi => hc i _ (by simp [hi])⟩
/-- What stands behind the round's calls: the round's own, what the pool has told, and what the law has reckoned. -/
structure RdX (w0 w : World) (B g sb bk : Nat) (om : Option Nat) (fp n f : Int) (nn : Nat) (us : List Int) (fs : Array Value) (ls : List (List Int)) (ob C mb mcap : Nat) (o : OpV) (D D' : Nat) (v v' : Value) : Prop where
  r : RdS w0 w B g sb bk om fp n f nn us us fs ls ob C mb mcap o
  u : w.ownsRow D 3 1 v us.length (us.map (Value.int .i64))
  a : w.ownsRow D' 3 1 v' us.length (us.map (Value.int .i64))
  s : B ≤ w.heap.size
section
variable {w0 w w' : World} {B g sb bk : Nat} {om : Option Nat} {fp n f : Int} {nn : Nat} {us : List Int} {fs : Array Value} {ls : List (List Int)} {ob C mb mcap : Nat} {o : OpV} {D D' : Nat} {v v' : Value}
theorem RdX.below (h : RdX w0 w B g sb bk om fp n f nn us fs ls ob C mb mcap o D D' v v') (hb : Below w.heap.size w w') : RdX w0 w' B g sb bk om fp n f nn us fs ls ob C mb mcap o D D' v v' :=
  ⟨h.r.below hb, bk_below h.u hb, bk_below h.a hb, Nat.le_trans h.s hb.size⟩
theorem RdX.full (h : RdX w0 w B g sb bk om fp n f nn us fs ls ob C mb mcap o D D' v v') : RdX w0 w B g sb bk om fp n f nn us fs ls ob C mb mcap o D D' v v' ∧ w.cell? ⟨ob, 1, none⟩ = some (.int .i64 o.n) ∧ w.cell? ⟨ob, 2, none⟩ = some (.slice o.A o.len o.cap) :=
  ⟨h, h.r.ob_.at_ 1 rfl, h.r.ob_.at_ 2 rfl⟩
theorem RdX.same {A A' : Option Addr} {c c' : Nat} (h : RdX w0 w B g sb bk om fp n f nn us fs ls ob C mb mcap o D D' (.slice A us.length c) (.slice A' us.length c')) (hw : ∀ z ∈ us, (Lit.int .i64 z).wf = true) (hl : us.length ≤ 60) :
    Calls Try.prog 15 #[.slice A us.length c, .slice A' us.length c'] w fun e w' => e = .returned (.bool true) ∧ Below w.heap.size w w' := by
  have iu := h.u
  have ia := h.a
  rw [← flat_one] at iu ia
  obtain ⟨A1, c1, e1, s1⟩ := bk_sl iu
  obtain ⟨A2, c2, e2, s2⟩ := bk_sl ia
  cases e1; cases e2
  refine (likeInts_any A A' us.length c c' us w (viewInts s1 rfl (by omega) hw) (viewInts s2 rfl (by omega) hw)).mono ?_
  rintro e w1 ⟨rfl, q, rfl⟩
  exact ⟨rfl, below_drewN (Below.refl _ _) _⟩
theorem RdX.free (h : RdX w0 w B g sb bk om fp n f nn us fs ls ob C mb mcap o D D' v v') :
    Calls Try.prog 16 #[.pointer (some ⟨g, 0, none⟩)] w fun e w' => e = .returned (.int .i64 (n - us.length)) ∧ Below w.heap.size w w' := h.r.p.pool.free
theorem RdX.size (h : RdX w0 w B g sb bk om fp n f nn us fs ls ob C mb mcap o D D' v v') :
    Calls Try.prog 7 #[.pointer (some ⟨g, 0, none⟩)] w fun e w' => e = .returned (.int .i64 n) ∧ Below w.heap.size w w' := by
  refine h.r.p.pool.size.mono ?_
  rintro e w1 ⟨rfl, rfl⟩
  exact ⟨rfl, Below.refl _ _⟩
theorem RdX.has (h : RdX w0 w B g sb bk om fp n f nn us fs ls ob C mb mcap o D D' v v') (hz : (Lit.int .i64 o.n).wf = true) :
    Calls Try.prog 17 #[.pointer (some ⟨g, 0, none⟩), .int .i64 o.n] w fun e w' => e = .returned (.bool (decide (o.n ∈ us))) ∧ Below w.heap.size w w' := h.r.p.pool.has o.n hz
theorem RdX.stays (h : RdX w0 w B g sb bk om fp n f nn us fs ls ob C mb mcap o D D' v v') (hl : o.len ≤ 60) :
    Calls Try.prog 18 #[.slice (some ⟨mb, 0, none⟩) o.len mcap, .slice o.A o.len o.cap] w fun e w' => e = .returned (.bool true) ∧ Below w.heap.size w w' :=
  staysInts_any mb mcap o.len C o.cap o.A o.zs w h.r.m h.r.ints h.r.z.len h.r.z.wf (by omega)
end
/-- A list of marks laid by what is given back. -/
theorem give_at {us zs : List Int} {t : Nat} (h : t < zs.length) : (zs[t] ∈ (giveAll us (zs.take t)).1 → giveAll us (zs.take (t + 1)) = ((giveAll us (zs.take t)).1.filter (fun x => decide (x ≠ zs[t])), (giveAll us (zs.take t)).2 + 1)) ∧ (zs[t] ∉ (giveAll us (zs.take t)).1 → giveAll us (zs.take (t + 1)) = giveAll us (zs.take t)) :=
  ⟨give_hit h, give_miss h⟩
theorem give_few (us zs : List Int) (t : Nat) : 0 ≤ (giveAll us (zs.take t)).2 ∧ (giveAll us (zs.take t)).2 ≤ t := by
  have h1 := give_bd us (zs.take t)
  have h2 := List.length_take_le t zs
  omega
end Go.Proofs.Ytcglbbabfkbcbac
