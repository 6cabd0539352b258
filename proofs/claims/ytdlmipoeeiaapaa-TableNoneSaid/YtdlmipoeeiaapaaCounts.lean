/-
  Counts in a map[int]int: how it reads; the blocks that counts take.
-/
import Derived.Test.YtdlmipoeeiaapaaTable
import Derived.Maps.OwnOps
namespace Go.Proofs.Ytdlmipoeeiaapaa
open Go.RowKit Go.Maps

theorem wf_i64 {z : Int} (h : -9223372036854775808 ≤ z ∧ z ≤ 9223372036854775807) : (Lit.int .i64 z).wf = true := by
  have : IntKind.i64.min = -9223372036854775808 ∧ IntKind.i64.max = 9223372036854775807 := by decide
  simpa [Lit.wf, this.1, this.2] using h
def bump (k : Int) : List (Int × Int) → List (Int × Int)
  | [] => [(k, 1)]
  | p :: r => if p.1 = k then (p.1, p.2 + 1) :: r else p :: bump k r
def atc (cs : List (Int × Int)) (k : Int) : Int := match cs with
  | [] => 0
  | p :: r => if p.1 = k then p.2 else atc r k
def bumps (ks : List Int) : List (Int × Int) := ks.foldl (fun c k => bump k c) []
theorem bumps_snoc (ks : List Int) (k : Int) : bumps (ks ++ [k]) = bump k (bumps ks) := by simp [bumps, List.foldl_append]
theorem mem_bump {k : Int} {p : Int × Int} : ∀ {cs : List (Int × Int)}, p ∈ bump k cs → p.1 = k ∨ p ∈ cs
  | [], h => by simp [bump] at h; exact .inl (by rw [h])
  | q :: r, h => by
    unfold bump at h
    split at h
    · next e =>
      rcases List.mem_cons.1 h with rfl | h
      · exact .inl e
      · exact .inr (by simp [h])
    · rcases List.mem_cons.1 h with rfl | h
      · exact .inr (by simp)
      · rcases mem_bump h with h | h
        · exact .inl h
        · exact .inr (by simp [h])
theorem apart_bump {k : Int} : ∀ {cs : List (Int × Int)}, cs.Pairwise (fun p q => p.1 ≠ q.1) → (bump k cs).Pairwise (fun p q => p.1 ≠ q.1)
  | [], _ => by simp [bump]
  | q :: r, h => by
    rw [List.pairwise_cons] at h
    unfold bump
    split
    · rw [List.pairwise_cons]; exact h
    · next e =>
      rw [List.pairwise_cons]
      refine ⟨fun p hp => ?_, apart_bump h.2⟩
      rcases mem_bump hp with h1 | h1
      · rw [h1]; exact e
      · exact h.1 p h1
theorem bump_perm {k : Int} : ∀ {cs : List (Int × Int)}, cs.Pairwise (fun p q => p.1 ≠ q.1) → (bump k cs).Perm ((k, atc cs k + 1) :: cs.filter fun p => !decide (p.1 = k))
  | [], _ => by simp [bump, atc]
  | q :: r, h => by
    rw [List.pairwise_cons] at h
    unfold bump atc
    split
    · next e =>
      rw [List.filter_cons, if_neg (by simp [e]), List.filter_eq_self.2 (fun p hp => by have := h.1 p hp; simp; rw [← e]; exact fun e2 => this e2.symm), e]
    · next e =>
      rw [List.filter_cons, if_pos (by simp [e])]
      exact ((bump_perm h.2).cons q).trans (List.Perm.swap _ q _)
theorem apart_bumps (ks : List Int) : (bumps ks).Pairwise (fun p q => p.1 ≠ q.1) := by
  obtain ⟨m, rfl⟩ : ∃ m : List Int, ks = m.reverse := ⟨ks.reverse, by simp⟩
  induction m with
  | nil => exact List.Pairwise.nil
  | cons a r ih => rw [List.reverse_cons, bumps_snoc]; exact apart_bump ih
def sumC (cs : List (Int × Int)) : Int := match cs with
  | [] => 0
  | p :: r => p.2 + sumC r
def ceils (cs : List (Int × Int)) : Int := match cs with
  | [] => 0
  | p :: r => (p.2 + 2) / 3 + ceils r
theorem sumC_bump (k : Int) : ∀ cs : List (Int × Int), sumC (bump k cs) = sumC cs + 1
  | [] => rfl
  | q :: r => by
    unfold bump
    split
    · simp only [sumC]; omega
    · simp only [sumC]; rw [sumC_bump k r]; omega
theorem sumC_bumps (ks : List Int) : sumC (bumps ks) = ks.length := by
  obtain ⟨m, rfl⟩ : ∃ m : List Int, ks = m.reverse := ⟨ks.reverse, by simp⟩
  induction m with
  | nil => rfl
  | cons a r ih => rw [List.reverse_cons, bumps_snoc, sumC_bump, ih]; simp
theorem pos_bump {k : Int} : ∀ {cs : List (Int × Int)}, (∀ p ∈ cs, 1 ≤ p.2) → ∀ p ∈ bump k cs, 1 ≤ p.2
  | [], _ => by simp [bump]
  | q :: r, h => by
    intro p hp
    unfold bump at hp
    split at hp
    · rcases List.mem_cons.1 hp with rfl | hp
      · have := h q (by simp); simp; omega
      · exact h p (by simp [hp])
    · rcases List.mem_cons.1 hp with rfl | hp
      · exact h p (by simp)
      · exact pos_bump (fun p hp => h p (by simp [hp])) p hp
theorem pos_bumps (ks : List Int) : ∀ p ∈ bumps ks, 1 ≤ p.2 := by
  obtain ⟨m, rfl⟩ : ∃ m : List Int, ks = m.reverse := ⟨ks.reverse, by simp⟩
  induction m with
  | nil => simp [bumps]
  | cons a r ih => rw [List.reverse_cons, bumps_snoc]; exact pos_bump ih
theorem keys_bumps (P : Int → Prop) (ks : List Int) (h : ∀ k ∈ ks, P k) : ∀ p ∈ bumps ks, P p.1 := by
  obtain ⟨m, rfl⟩ : ∃ m : List Int, ks = m.reverse := ⟨ks.reverse, by simp⟩
  induction m with
  | nil => simp [bumps]
  | cons a r ih =>
    rw [List.reverse_cons, bumps_snoc]
    intro p hp
    rcases mem_bump hp with e | hp
    · rw [e]; exact h a (by simp)
    · exact ih (fun k hk => h k (by simp at hk ⊢; exact .inl hk)) p hp
theorem le_sumC : ∀ {cs : List (Int × Int)}, (∀ p ∈ cs, 1 ≤ p.2) → (∀ p ∈ cs, p.2 ≤ sumC cs) ∧ (cs.length : Int) ≤ sumC cs
  | [], _ => by simp [sumC]
  | q :: r, h => by
    obtain ⟨h1, h2⟩ := le_sumC (cs := r) (fun p hp => h p (by simp [hp]))
    have hq := h q (by simp)
    simp only [sumC]
    refine ⟨fun p hp => ?_, by simp; omega⟩
    rcases List.mem_cons.1 hp with rfl | hp
    · omega
    · have := h1 p hp; omega
theorem ceils_bd : ∀ {cs : List (Int × Int)}, (∀ p ∈ cs, 1 ≤ p.2) → sumC cs ≤ 3 * ceils cs ∧ ceils cs ≤ sumC cs ∧ 0 ≤ ceils cs
  | [], _ => by simp [sumC, ceils]
  | q :: r, h => by
    have := ceils_bd (cs := r) (fun p hp => h p (by simp [hp]))
    have hq := h q (by simp)
    simp only [sumC, ceils]
    omega
theorem ceils_perm {cs ds : List (Int × Int)} (h : cs.Perm ds) : ceils cs = ceils ds := by
  induction h with
  | nil => rfl
  | cons x _ ih => simp only [ceils, ih]
  | swap x y l => simp only [ceils]; omega
  | trans _ _ h1 h2 => rw [h1, h2]
theorem atc_bd {cs : List (Int × Int)} (h : ∀ p ∈ cs, 1 ≤ p.2) (k : Int) : 0 ≤ atc cs k ∧ atc cs k ≤ sumC cs := by
  induction cs with
  | nil => simp [atc, sumC]
  | cons q r ih =>
    have h1 := ih (fun p hp => h p (by simp [hp]))
    have h2 := h q (by simp)
    have h3 := (le_sumC (cs := r) (fun p hp => h p (by simp [hp]))).2
    unfold atc
    split <;> simp only [sumC] <;> omega

def cntP (p : Int × Int) : Lit × DataW Unit := (.int .i64 p.1, .lit (.int .i64 p.2))
/-- A map that has just these counts. -/
structure RepC (D : DataW Unit) (cs : List (Int × Int)) : Prop where
  perm : ∃ ps, D = .map ps ∧ ps.Perm (cs.map cntP)
  apart : cs.Pairwise (fun p q => p.1 ≠ q.1)
theorem int_same {a b : Int} : (Lit.int .i64 a).sameKey (Lit.int .i64 b) = decide (a = b) := by
  rw [Bool.eq_iff_iff, WideAt.sameKey_iff (by simp [WideAt.IsKeyLit])]
  simp
theorem RepC.nil : RepC (.map []) [] := ⟨⟨[], rfl, List.Perm.refl _⟩, List.Pairwise.nil⟩
theorem RepC.size {D : DataW Unit} {cs : List (Int × Int)} (h : RepC D cs) : Maps.size D = cs.length := by
  obtain ⟨ps, rfl, hp⟩ := h.perm
  rw [Maps.size_eq, hp.length_eq, List.length_map]
theorem RepC.entries {D : DataW Unit} {cs : List (Int × Int)} (h : RepC D cs) : ∃ ps, D = .map ps ∧ ps.Perm (cs.map cntP) ∧ ps.Pairwise (fun p q => p.1 ≠ q.1) := by
  obtain ⟨ps, rfl, hp⟩ := h.perm
  refine ⟨ps, rfl, hp, ?_⟩
  refine (hp.pairwise_iff (fun {_ _} hne => Ne.symm hne)).2 ?_
  rw [List.pairwise_map]
  refine h.apart.imp ?_
  intro a b hne e
  simp [cntP] at e
  exact hne e
theorem atc_mem {cs : List (Int × Int)} (h : cs.Pairwise (fun p q => p.1 ≠ q.1)) {p : Int × Int} (hp : p ∈ cs) : atc cs p.1 = p.2 := by
  induction cs with
  | nil => cases hp
  | cons q r ih =>
    rw [List.pairwise_cons] at h
    unfold atc
    rcases List.mem_cons.1 hp with rfl | hp
    · rw [if_pos rfl]
    · rw [if_neg (h.1 p hp)]; exact ih h.2 hp
theorem atc_none : ∀ {cs : List (Int × Int)} {k : Int}, (∀ p ∈ cs, p.1 ≠ k) → atc cs k = 0
  | [], _, _ => rfl
  | q :: r, k, h => by unfold atc; rw [if_neg (h q (by simp))]; exact atc_none (fun p hp => h p (by simp [hp]))
theorem RepC.at_ {D : DataW Unit} {cs : List (Int × Int)} (h : RepC D cs) (k : Int) : D.atKey (.int .i64 k) (.lit (.int .i64 0)) = .lit (.int .i64 (atc cs k)) := by
  obtain ⟨ps, rfl, hp, hap⟩ := h.entries
  by_cases hm : ∃ p ∈ cs, p.1 = k
  · obtain ⟨p, hpm, rfl⟩ := hm
    rw [atc_mem h.apart hpm]
    exact WideAt.atKey_mem _ (by simp [WideAt.IsKeyLit]) hap (hp.mem_iff.2 (List.mem_map.2 ⟨p, hpm, rfl⟩))
  · have hn : ∀ p ∈ cs, p.1 ≠ k := fun p hpm e => hm ⟨p, hpm, e⟩
    rw [atc_none hn]
    refine WideAt.atKey_none _ (fun q hq e => ?_)
    obtain ⟨p, hpm, rfl⟩ := List.mem_map.1 (hp.mem_iff.1 hq)
    simp [cntP] at e
    exact hn p hpm e
theorem RepC.put {D : DataW Unit} {cs : List (Int × Int)} (h : RepC D cs) (k : Int) : RepC (D.put (.int .i64 k) (.lit (.int .i64 (atc cs k + 1)))) (bump k cs) := by
  obtain ⟨ps, rfl, hp⟩ := h.perm
  refine ⟨⟨_, by unfold DataW.put; rfl, ?_⟩, apart_bump h.apart⟩
  refine (WideShapes.insert_perm _ _).trans ?_
  refine List.Perm.trans ?_ ((bump_perm h.apart).map cntP).symm
  rw [List.map_cons]
  refine List.Perm.cons _ ?_
  refine (hp.filter _).trans ?_
  rw [List.filter_map]
  refine List.Perm.of_eq ?_
  congr 1
  apply List.filter_congr
  intro p _
  exact congrArg Bool.not int_same
/-- A map of counts in memory. -/
structure CntAt (w : World) (b : Nat) (cs : List (Int × Int)) : Prop where
  own : ∃ D : DataW Unit, w.ownsMap Try.prog 3 (plainElem Try.prog 3) b cs.length D ∧ RepC D cs
theorem CntAt.mk' {w : World} {b n : Nat} {D : DataW Unit} {cs : List (Int × Int)} (h : w.ownsMap Try.prog 3 (plainElem Try.prog 3) b n D) (hr : RepC D cs) : CntAt w b cs :=
  ⟨D, by have := ownsMap_tight h; rwa [hr.size] at this, hr⟩
theorem CntAt.lt {w : World} {b : Nat} {cs : List (Int × Int)} (h : CntAt w b cs) : b < w.heap.size := by obtain ⟨D, h1, _⟩ := h.own; exact h1.lt
theorem CntAt.grown {w w' : World} {b : Nat} {cs : List (Int × Int)} {row : Option Nat} (h : CntAt w b cs) (hg : w.grownBy w' row) (hne : some b ≠ row) : CntAt w' b cs := by
  obtain ⟨D, h1, h2⟩ := h.own; exact ⟨D, h1.kept hg hne, h2⟩
theorem CntAt.below {w w' : World} {b : Nat} {cs : List (Int × Int)} (h : CntAt w b cs) (hb : Below w.heap.size w w') : CntAt w' b cs := h.grown (grown_of_below hb none) (by simp)
theorem CntAt.nocell {w : World} {b : Nat} {cs : List (Int × Int)} (h : CntAt w b cs) (o : Nat) : w.cell? ⟨b, o, none⟩ = none := by
  obtain ⟨D, ⟨es, c, h1, _⟩, _⟩ := h.own
  simp [World.cell?, h1]
theorem int_law : Keyed Try.prog 3 := int_keyed Try.underlying3
theorem zero_int (w : World) : (zeroValue 3).run Try.prog w = .ok (.int .i64 0) w := by kernel_rfl
/-- The counts that a range has come by. -/
def camC (cs : List (Int × Int)) (left : Lit → Bool) : List (Int × Int) := cs.filter fun p => !left (.int .i64 p.1)
theorem camC_start {D : DataW Unit} {cs : List (Int × Int)} (h : RepC D cs) : camC cs (Maps.has D) = [] := by
  unfold camC
  rw [List.filter_eq_nil_iff]
  intro p hp
  obtain ⟨ps, rfl, hpp⟩ := h.perm
  rw [Maps.has_eq]
  simp only [Bool.not_eq_true', Bool.not_eq_false]
  rw [List.any_eq_true]
  exact ⟨cntP p, hpp.mem_iff.2 (List.mem_map.2 ⟨p, hp, rfl⟩), by show (Lit.int .i64 p.1).sameKey _ = true; rw [int_same]; simp⟩
theorem camC_end {cs : List (Int × Int)} {left : Lit → Bool} (h : ∀ kl, left kl = false) : camC cs left = cs := by
  unfold camC
  exact List.filter_eq_self.2 (fun r _ => by rw [h]; rfl)
theorem camC_step {cs : List (Int × Int)} (hap : cs.Pairwise (fun p q => p.1 ≠ q.1)) {left : Lit → Bool} {p : Int × Int} (hp : p ∈ cs) (hl : left (.int .i64 p.1) = true) : (camC cs fun z => left z && !z.sameKey (.int .i64 p.1)).Perm (p :: camC cs left) := by
  obtain ⟨a, b, rfl⟩ := List.append_of_mem hp
  rw [List.pairwise_append, List.pairwise_cons] at hap
  obtain ⟨_, ⟨hb, _⟩, hab⟩ := hap
  have hne : ∀ x : Int × Int, x.1 ≠ p.1 → (left (.int .i64 x.1) && !(Lit.int .i64 x.1).sameKey (.int .i64 p.1)) = left (.int .i64 x.1) := by
    intro x hx
    rw [int_same, decide_eq_false hx]; simp
  have e1 : camC a (fun z => left z && !z.sameKey (.int .i64 p.1)) = camC a left := by
    unfold camC
    apply List.filter_congr
    intro x hx
    exact congrArg Bool.not (hne x (hab x hx p (by simp)))
  have e2 : camC b (fun z => left z && !z.sameKey (.int .i64 p.1)) = camC b left := by
    unfold camC
    apply List.filter_congr
    intro x hx
    exact congrArg Bool.not (hne x (fun e => hb x hx e.symm))
  unfold camC at *
  rw [List.filter_append, List.filter_append, List.filter_cons, List.filter_cons, e1, e2, if_pos (by show (!(left _ && !(Lit.int .i64 p.1).sameKey (.int .i64 p.1))) = true; rw [int_same]; simp), if_neg (by rw [hl]; simp)]
  exact List.perm_middle
/-- What came in a step of a range is one of them. -/
theorem RepC.next {D : DataW Unit} {cs : List (Int × Int)} (h : RepC D cs) {x c : Int} (hat : ∀ z, D.atKey (.int .i64 x) z = .lit (.int .i64 c)) : (x, c) ∈ cs := by
  obtain ⟨ps, rfl, hp, hap⟩ := h.entries
  by_cases hm : ∃ p ∈ cs, p.1 = x
  · obtain ⟨p, hpm, rfl⟩ := hm
    have h1 := WideAt.atKey_mem (.lit (.int .i64 0)) (by simp [WideAt.IsKeyLit]) hap (hp.mem_iff.2 (List.mem_map.2 ⟨p, hpm, rfl⟩)) (k := .int .i64 p.1) (d := .lit (.int .i64 p.2))
    rw [hat] at h1
    simp at h1
    rw [h1]; exact hpm
  · have h1 : (DataW.map ps).atKey (.int .i64 x) .nil = .nil := WideAt.atKey_none _ (fun q hq e => by
      obtain ⟨p, hpm, rfl⟩ := List.mem_map.1 (hp.mem_iff.1 hq)
      simp [cntP] at e
      exact hm ⟨p, hpm, e⟩)
    rw [hat] at h1; cases h1
end Go.Proofs.Ytdlmipoeeiaapaa
