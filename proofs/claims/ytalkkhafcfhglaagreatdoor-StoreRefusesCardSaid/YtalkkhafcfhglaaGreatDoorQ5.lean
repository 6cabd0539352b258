/-
  Several texts in one: Counts, TableNeed.
-/
import Derived.Test.YtalkkhafcfhglaaGreatDoorQ4
set_option maxRecDepth 100000
set_option maxHeartbeats 4000000
namespace Go.Proofs.YtalkkhafcfhglaaGreatDoor
open Go.RowKit Go.Maps
theorem wf_i64 {z : Int} (h : -9223372036854775808 <= z /\ z <= 9223372036854775807) : (Lit.int .i64 z).wf = true := by
 have : IntKind.i64.min = -9223372036854775808 /\ IntKind.i64.max = 9223372036854775807 := by decide
 simpa [Lit.wf, this.1, this.2] using h
def bump (k : Int) : List (Int × Int) -> List (Int × Int)
 | [] => [(k, 1)]
 | p :: r => if p.1 = k then (p.1, p.2 + 1) :: r else p :: bump k r
def atc (cs : List (Int × Int)) (k : Int) : Int := match cs with
 | [] => 0
 | p :: r => if p.1 = k then p.2 else atc r k
def Jdy (ks : List Int) : List (Int × Int) := ks.foldl (fun c k => bump k c) []
theorem Jc3 (ks : List Int) (k : Int) : Jdy (ks ++ [k]) = bump k (Jdy ks) := by simp [Jdy, List.foldl_append]
theorem Jl2 {k : Int} {p : Int × Int} : ∀ {cs : List (Int × Int)}, p ∈ bump k cs -> p.1 = k \/ p ∈ cs
 | [], h => by simp [bump] at h; exact .inl (by rw [h])
 | q :: r, h => by
   unfold bump at h;split at h
   · next e =>
     rcases List.mem_cons.1 h with rfl | h
     · exact .inl e
     · exact .inr (by simp [h])
   · rcases List.mem_cons.1 h with rfl | h
     · exact .inr (by simp)
     · rcases Jl2 h with h | h
       · exact .inl h
       · exact .inr (by simp [h])
theorem Jhq {k : Int} : ∀ {cs : List (Int × Int)}, cs.Pairwise (fun p q => p.1 ≠ q.1) -> (bump k cs).Pairwise (fun p q => p.1 ≠ q.1)
 | [], _ => by simp [bump]
 | q :: r, h => by
   rw [List.pairwise_cons] at h;unfold bump;split
   · rw [List.pairwise_cons]; exact h
   · next e =>
     rw [List.pairwise_cons];refine ⟨fun p hp => ?_, Jhq h.2⟩;rcases Jl2 hp with h1 | h1
     · rw [h1]; exact e
     · exact h.1 p h1
theorem Jns {k : Int} : ∀ {cs : List (Int × Int)}, cs.Pairwise (fun p q => p.1 ≠ q.1) -> (bump k cs).Perm ((k, atc cs k + 1) :: cs.filter fun p => !decide (p.1 = k))
 | [], _ => by simp [bump, atc]
 | q :: r, h => by
   rw [List.pairwise_cons] at h;unfold bump atc;split
   · next e =>
     rw [List.filter_cons, if_neg (by simp [e]), List.filter_eq_self.2 (fun p hp => by have := h.1 p hp; simp; rw [<- e]; exact fun e2 => this e2.symm), e]
   · next e =>
     rw [List.filter_cons, if_pos (by simp [e])];exact ((Jns h.2).cons q).trans (List.Perm.swap _ q _)
theorem Jpx (ks : List Int) : (Jdy ks).Pairwise (fun p q => p.1 ≠ q.1) := by
 obtain ⟨m, rfl⟩ : ∃ m : List Int, ks = m.reverse := ⟨ks.reverse, by simp⟩
 induction m with
 | nil => exact List.Pairwise.nil
 | cons a r ih => rw [List.reverse_cons, Jc3]; exact Jhq ih
def sumC (cs : List (Int × Int)) : Int := match cs with
 | [] => 0
 | p :: r => p.2 + sumC r
def Jcp (cs : List (Int × Int)) : Int := match cs with
 | [] => 0
 | p :: r => (p.2 + 2) / 3 + Jcp r
theorem Jnt (k : Int) : ∀ cs : List (Int × Int), sumC (bump k cs) = sumC cs + 1
 | [] => rfl
 | q :: r => by
   unfold bump;split
   · simp only [sumC]; omega
   · simp only [sumC]; rw [Jnt k r]; omega
theorem Jdz (ks : List Int) : sumC (Jdy ks) = ks.length := by
 obtain ⟨m, rfl⟩ : ∃ m : List Int, ks = m.reverse := ⟨ks.reverse, by simp⟩
 induction m with
 | nil => rfl
 | cons a r ih => rw [List.reverse_cons, Jc3, Jnt, ih]; simp
theorem Jrb {k : Int} : ∀ {cs : List (Int × Int)}, (∀ p ∈ cs, 1 <= p.2) -> ∀ p ∈ bump k cs, 1 <= p.2
 | [], _ => by simp [bump]
 | q :: r, h => by
   intro p hp;unfold bump at hp;split at hp
   · rcases List.mem_cons.1 hp with rfl | hp
     · have := h q (by simp); simp; omega
     · exact h p (by simp [hp])
   · rcases List.mem_cons.1 hp with rfl | hp
     · exact h p (by simp)
     · exact Jrb (fun p hp => h p (by simp [hp])) p hp
theorem Jd0 (ks : List Int) : ∀ p ∈ Jdy ks, 1 <= p.2 := by
 obtain ⟨m, rfl⟩ : ∃ m : List Int, ks = m.reverse := ⟨ks.reverse, by simp⟩
 induction m with
 | nil => simp [Jdy]
 | cons a r ih => rw [List.reverse_cons, Jc3]; exact Jrb ih
theorem Jl3 : ∀ {cs : List (Int × Int)}, (∀ p ∈ cs, 1 <= p.2) -> (∀ p ∈ cs, p.2 <= sumC cs) /\ (cs.length : Int) <= sumC cs
 | [], _ => by simp [sumC]
 | q :: r, h => by
   obtain ⟨h1, h2⟩ := Jl3 (cs := r) (fun p hp => h p (by simp [hp]));have hq := h q (by simp);simp only [sumC];refine ⟨fun p hp => ?_, by simp; omega⟩;rcases List.mem_cons.1 hp with rfl | hp
   · omega
   · have := h1 p hp; omega
theorem Jrc : ∀ {cs : List (Int × Int)}, (∀ p ∈ cs, 1 <= p.2) -> sumC cs <= 3 * Jcp cs /\ Jcp cs <= sumC cs /\ 0 <= Jcp cs
 | [], _ => by simp [sumC, Jcp]
 | q :: r, h => by
   have := Jrc (cs := r) (fun p hp => h p (by simp [hp]));have hq := h q (by simp);simp only [sumC, Jcp];omega
theorem Jtc {cs ds : List (Int × Int)} (h : cs.Perm ds) : Jcp cs = Jcp ds := by
 induction h with
 | nil => rfl
 | cons x _ ih => simp only [Jcp, ih]
 | swap x y l => simp only [Jcp]; omega
 | trans _ _ h1 h2 => rw [h1, h2]
theorem J4s {cs : List (Int × Int)} (h : ∀ p ∈ cs, 1 <= p.2) (k : Int) : 0 <= atc cs k /\ atc cs k <= sumC cs := by
 induction cs with
 | nil => simp [atc, sumC]
 | cons q r ih =>
   have h1 := ih (fun p hp => h p (by simp [hp]));have h2 := h q (by simp);have h3 := (Jl3 (cs := r) (fun p hp => h p (by simp [hp]))).2;unfold atc;split <;> simp only [sumC] <;> omega
def cntP (p : Int × Int) : Lit × DataW Unit := (.int .i64 p.1, .lit (.int .i64 p.2))
structure RepC (D : DataW Unit) (cs : List (Int × Int)) : Prop where
 perm : ∃ ps, D = .map ps /\ ps.Perm (cs.map cntP)
 apart : cs.Pairwise (fun p q => p.1 ≠ q.1)
theorem Jij {a b : Int} : (Lit.int .i64 a).sameKey (Lit.int .i64 b) = decide (a = b) := by
 rw [Bool.eq_iff_iff, WideAt.sameKey_iff (by simp [WideAt.IsKeyLit])]
 simp
theorem RepC.nil : RepC (.map []) [] := ⟨⟨[], rfl, List.Perm.refl _⟩, List.Pairwise.nil⟩
theorem RepC.size {D : DataW Unit} {cs : List (Int × Int)} (h : RepC D cs) : Maps.size D = cs.length := by
 obtain ⟨ps, rfl, hp⟩ := h.perm;rw [Maps.size_eq, hp.length_eq, List.length_map]
theorem RepC.entries {D : DataW Unit} {cs : List (Int × Int)} (h : RepC D cs) : ∃ ps, D = .map ps /\ ps.Perm (cs.map cntP) /\ ps.Pairwise (fun p q => p.1 ≠ q.1) := by
 obtain ⟨ps, rfl, hp⟩ := h.perm;refine ⟨ps, rfl, hp, ?_⟩;refine (hp.pairwise_iff (fun {_ _} hne => Ne.symm hne)).2 ?_;rw [List.pairwise_map];refine h.apart.imp ?_;intro a b hne e;simp [cntP] at e;exact hne e
theorem J2q {cs : List (Int × Int)} (h : cs.Pairwise (fun p q => p.1 ≠ q.1)) {p : Int × Int} (hp : p ∈ cs) : atc cs p.1 = p.2 := by
 induction cs with
 | nil => cases hp
 | cons q r ih =>
   rw [List.pairwise_cons] at h;unfold atc;rcases List.mem_cons.1 hp with rfl | hp
   · rw [if_pos rfl]
   · rw [if_neg (h.1 p hp)]; exact ih h.2 hp
theorem Jl4 : ∀ {cs : List (Int × Int)} {k : Int}, (∀ p ∈ cs, p.1 ≠ k) -> atc cs k = 0
 | [], _, _ => rfl
 | q :: r, k, h => by unfold atc; rw [if_neg (h q (by simp))]; exact Jl4 (fun p hp => h p (by simp [hp]))
theorem RepC.at_ {D : DataW Unit} {cs : List (Int × Int)} (h : RepC D cs) (k : Int) : D.atKey (.int .i64 k) (.lit (.int .i64 0)) = .lit (.int .i64 (atc cs k)) := by
 obtain ⟨ps, rfl, hp, hap⟩ := h.entries;by_cases hm : ∃ p ∈ cs, p.1 = k
 · obtain ⟨p, hpm, rfl⟩ := hm
   rw [J2q h.apart hpm];exact WideAt.atKey_mem _ (by simp [WideAt.IsKeyLit]) hap (hp.mem_iff.2 (List.mem_map.2 ⟨p, hpm, rfl⟩))
 · have hn : ∀ p ∈ cs, p.1 ≠ k := fun p hpm e => hm ⟨p, hpm, e⟩
   rw [Jl4 hn];refine WideAt.atKey_none _ (fun q hq e => ?_);obtain ⟨p, hpm, rfl⟩ := List.mem_map.1 (hp.mem_iff.1 hq);simp [cntP] at e;exact hn p hpm e
theorem RepC.put {D : DataW Unit} {cs : List (Int × Int)} (h : RepC D cs) (k : Int) : RepC (D.put (.int .i64 k) (.lit (.int .i64 (atc cs k + 1)))) (bump k cs) := by
 obtain ⟨ps, rfl, hp⟩ := h.perm;refine ⟨⟨_, by unfold DataW.put; rfl, ?_⟩, Jhq h.apart⟩;refine (WideShapes.insert_perm _ _).trans ?_;refine List.Perm.trans ?_ ((Jns h.apart).map cntP).symm;rw [List.map_cons];refine List.Perm.cons _ ?_;refine (hp.filter _).trans ?_;rw [List.filter_map];refine List.Perm.of_eq ?_
 congr 1
 apply List.filter_congr;intro p _;exact congrArg Bool.not Jij
structure Jgb (w : World) (b : Nat) (cs : List (Int × Int)) : Prop where
 own : ∃ D : DataW Unit, w.ownsMap Tryz.prog 3 (plainElem Tryz.prog 3) b cs.length D /\ RepC D cs
theorem Jgb.mk' {w : World} {b n : Nat} {D : DataW Unit} {cs : List (Int × Int)} (h : w.ownsMap Tryz.prog 3 (plainElem Tryz.prog 3) b n D) (hr : RepC D cs) : Jgb w b cs :=
 ⟨D, by have := Jbr h; rwa [hr.size] at this, hr⟩
theorem Jgb.lt {w : World} {b : Nat} {cs : List (Int × Int)} (h : Jgb w b cs) : b < w.heap.size := by obtain ⟨D, h1, _⟩ := h.own; exact h1.lt
theorem Jgb.grown {w w' : World} {b : Nat} {cs : List (Int × Int)} {row : Option Nat} (h : Jgb w b cs) (hg : w.grownBy w' row) (hne : some b ≠ row) : Jgb w' b cs := by
 obtain ⟨D, h1, h2⟩ := h.own; exact ⟨D, h1.kept hg hne, h2⟩
theorem Jgb.below {w w' : World} {b : Nat} {cs : List (Int × Int)} (h : Jgb w b cs) (hb : Below w.heap.size w w') : Jgb w' b cs := h.grown (Jaa hb none) (by simp)
theorem Jgb.nocell {w : World} {b : Nat} {cs : List (Int × Int)} (h : Jgb w b cs) (o : Nat) : w.cell? ⟨b, o, none⟩ = none := by
 obtain ⟨D, ⟨es, c, h1, _⟩, _⟩ := h.own;simp [World.cell?, h1]
theorem Jcf : Keyed Tryz.prog 3 := int_keyed Tryz.underlying3
theorem Jzk (w : World) : (zeroValue 3).run Tryz.prog w = .ok (.int .i64 0) w := by kernel_rfl
def camC (cs : List (Int × Int)) (left : Lit -> Bool) : List (Int × Int) := cs.filter fun p => !left (.int .i64 p.1)
theorem Jtd {D : DataW Unit} {cs : List (Int × Int)} (h : RepC D cs) : camC cs (Maps.has D) = [] := by
 unfold camC;rw [List.filter_eq_nil_iff];intro p hp;obtain ⟨ps, rfl, hpp⟩ := h.perm;rw [Maps.has_eq];simp only [Bool.not_eq_true', Bool.not_eq_false];rw [List.any_eq_true];exact ⟨cntP p, hpp.mem_iff.2 (List.mem_map.2 ⟨p, hp, rfl⟩), by show (Lit.int .i64 p.1).sameKey _ = true; rw [Jij]; simp⟩
theorem Jzl {cs : List (Int × Int)} {left : Lit -> Bool} (h : ∀ kl, left kl = false) : camC cs left = cs := by
 unfold camC;exact List.filter_eq_self.2 (fun r _ => by rw [h]; rfl)
theorem Jvc {cs : List (Int × Int)} (hap : cs.Pairwise (fun p q => p.1 ≠ q.1)) {left : Lit -> Bool} {p : Int × Int} (hp : p ∈ cs) (hl : left (.int .i64 p.1) = true) : (camC cs fun z => left z && !z.sameKey (.int .i64 p.1)).Perm (p :: camC cs left) := by
 obtain ⟨a, b, rfl⟩ := List.append_of_mem hp;rw [List.pairwise_append, List.pairwise_cons] at hap;obtain ⟨_, ⟨hb, _⟩, hab⟩ := hap
 have hne : ∀ x : Int × Int, x.1 ≠ p.1 -> (left (.int .i64 x.1) && !(Lit.int .i64 x.1).sameKey (.int .i64 p.1)) = left (.int .i64 x.1) := by
  intro x hx;rw [Jij, decide_eq_false hx]; simp
 have e1 : camC a (fun z => left z && !z.sameKey (.int .i64 p.1)) = camC a left := by
  unfold camC;apply List.filter_congr;intro x hx;exact congrArg Bool.not (hne x (hab x hx p (by simp)))
 have e2 : camC b (fun z => left z && !z.sameKey (.int .i64 p.1)) = camC b left := by
  unfold camC;apply List.filter_congr;intro x hx;exact congrArg Bool.not (hne x (fun e => hb x hx e.symm))
 unfold camC at *;rw [List.filter_append, List.filter_append, List.filter_cons, List.filter_cons, e1, e2, if_pos (by show (!(left _ && !(Lit.int .i64 p.1).sameKey (.int .i64 p.1))) = true; rw [Jij]; simp), if_neg (by rw [hl]; simp)];exact List.perm_middle
theorem RepC.next {D : DataW Unit} {cs : List (Int × Int)} (h : RepC D cs) {x c : Int} (hat : ∀ z, D.atKey (.int .i64 x) z = .lit (.int .i64 c)) : (x, c) ∈ cs := by
 obtain ⟨ps, rfl, hp, hap⟩ := h.entries;by_cases hm : ∃ p ∈ cs, p.1 = x
 · obtain ⟨p, hpm, rfl⟩ := hm
   have h1 := WideAt.atKey_mem (.lit (.int .i64 0)) (by simp [WideAt.IsKeyLit]) hap (hp.mem_iff.2 (List.mem_map.2 ⟨p, hpm, rfl⟩)) (k := .int .i64 p.1) (d := .lit (.int .i64 p.2));rw [hat] at h1;simp at h1;rw [h1]; exact hpm
 · have h1 : (DataW.map ps).atKey (.int .i64 x) .nil = .nil := WideAt.atKey_none _ (fun q hq e => by
    obtain ⟨p, hpm, rfl⟩ := List.mem_map.1 (hp.mem_iff.1 hq);simp [cntP] at e;exact hm ⟨p, hpm, e⟩)
   rw [hat] at h1; cases h1
theorem Jl5 {w : World} {B : Nat} {v : Value} {l : List Rc} (h : w.ownsRow B 169 7 v l.length (l.flatMap Rc.cells)) (hok : ∀ r ∈ l, r.Ok) (hn : l.length <= maxLen) :
  ∃ A c, v = .slice A l.length c /\ Rcs w A l.length l := by
 have hnm : ∀ r ∈ l, r.nm.size <= maxLen := fun r hr => (hok r hr).nm;have hst : ∀ r ∈ l, (Lit.int .i64 r.st).wf = true := fun r hr => (hok r hr).st;have hag : ∀ r ∈ l, r.ag.Ok := fun r hr => (hok r hr).ag.ok;rcases h.2 with ⟨rfl, he⟩ | ⟨g, cap, cur, rfl, _, hg, _, _, _, ht⟩
 · refine ⟨none, 0, by rw [he], ⟨?_, rfl, hn, hnm, hst, hag⟩⟩
   rw [List.eq_nil_of_length_eq_zero he]; exact Sl.nil _ _
 · refine ⟨some ⟨g, 0, none⟩, cap, rfl, ⟨⟨fun _ => ⟨g, 0, rfl, lt_of_block hg, fun j u hu => ?_⟩⟩, rfl, hn, hnm, hst, hag⟩⟩
   have hj : j < l.length * 7 := by have := (List.getElem?_eq_some_iff.1 hu).1; rwa [Jfn Ju6] at this
   rw [Nat.zero_add, h.cellAt j hj];exact hu
theorem Rcs.keepB {w w' : World} {A : Option Addr} {n b0 : Nat} {l : List Rc} (h : Rcs w A n l) (hm : ∀ o, w.cell? ⟨b0, o, none⟩ = none) (hg : w.grownBy w' (some b0)) : Rcs w' A n l := by
 refine ⟨⟨fun hne => ?_⟩, h.len, h.n_le, h.nm, h.st, h.ok⟩;obtain ⟨b, off, e, hb, hc⟩ := h.sl.at_ hne
 have hbm : b ≠ b0 := by
  intro e2;subst e2;cases hx : l.flatMap Rc.cells with
  | nil => exact hne hx
  | cons u r =>
    have := hc 0 u (by rw [hx]; rfl);rw [hm] at this; cases this
 exact ⟨b, off, e, Nat.lt_of_lt_of_le hb hg.size, fun j u hu => hg.cell (hc j u hu) (fun e3 => hbm (by injection e3))⟩
theorem Rcs.below {w w' : World} {A : Option Addr} {n : Nat} {l : List Rc} (h : Rcs w A n l) (hb : Below w.heap.size w w') : Rcs w' A n l := ⟨h.sl.below hb, h.len, h.n_le, h.nm, h.st, h.ok⟩
def Jbc (n : Int) (l : List Rc) : List Int := l.map fun r => Jco r.nm.toList (max n 1)
theorem Jgc (n : Int) (l : List Rc) (r : Rc) : Jbc n (l ++ [r]) = Jbc n l ++ [Jco r.nm.toList (max n 1)] := by simp [Jbc]
def Jhr (n : Int) (l : List Rc) : Int := Jcp (Jdy (Jbc n l))
theorem Jvd (s : List UInt8) (n : Int) (hn : -9223372036854775808 <= n /\ n <= 9223372036854775807) : (Lit.int .i64 (Jco s n)).wf = true := by
 have hb := Jpt s
 have : 0 <= Jco s n /\ Jco s n <= 9223372036854775807 := by
  unfold Jco;split
  · omega
  · have := Int.emod_nonneg (hash s) (show n ≠ 0 by omega)
    have := Int.emod_lt_of_pos (hash s) (show 0 < n by omega);omega
 exact wf_i64 (by omega)
theorem J4t (n : Int) (l : List Rc) (k : Int) : 0 <= atc (Jdy (Jbc n l)) k /\ atc (Jdy (Jbc n l)) k <= l.length := by
 have h1 := J4s (Jd0 (Jbc n l)) k;rw [Jdz] at h1
 simpa [Jbc] using h1
theorem J4u (n : Int) (l : List Rc) : (Jdy (Jbc n l)).length <= l.length := by
 have h1 := (Jl3 (Jd0 (Jbc n l))).2;rw [Jdz] at h1;simp [Jbc] at h1;exact h1
theorem J2r {cs : List (Int × Int)} (h : ∀ p ∈ cs, 1 <= p.2) (left : Lit -> Bool) : 0 <= Jcp (camC cs left) /\ Jcp (camC cs left) <= Jcp cs := by
 induction cs with
 | nil => simp [camC, Jcp]
 | cons q r ih =>
   have h1 := ih (fun p hp => h p (by simp [hp]));have h2 := h q (by simp);unfold camC at h1 ⊢;rw [List.filter_cons];split <;> simp only [Jcp] <;> omega
theorem Jve (n : Int) {w : World} {g mm : Nat} {ev : Int} {l : List Rc} (h : Jam w g mm ev l) (hfew : l.length < 1000000) (hn : -9223372036854775808 <= n /\ n <= 9223372036854775807) :
  Calls Tryz.prog 96 #[.pointer (some ⟨g, 0, none⟩), .int .i64 n] w fun e w' => e = .returned (.int .i64 (Jhr n l)) /\ Below w.heap.size w w' := by
 have hmk := @run_makeMap Tryz.prog;have hga : Below w.heap.size w (w.alloc (.map #[] 0)) := (Below.refl _ _).alloc (Nat.le_refl _) _;have h1 := h.below hga;have hc0 : Jgb (w.alloc (.map #[] 0)) w.heap.size [] := ⟨_, World.ownsMap_made w _ _ _, RepC.nil⟩;obtain ⟨_, _, hrep⟩ := h.map.own;go_enter Tryz.func96, Tryz.ntmps96
 go_wp2_with (first
  | (go_at_call 169; refine (Jra h1 hfew).mono ?_; rintro e w1 ⟨v, rfl, hrow, hb1⟩
     obtain ⟨A, c, rfl, hrs⟩ := Jl5 hrow hrep.ok (by unfold maxLen; omega)))
 have hc1 := hc0.below hb1;have hbw := hga.trans (hb1.mono hga.size);have hsz := hb1.size;have hsz' : w.heap.size < w1.heap.size := by simp at hsz; omega
 clear hsz;clear hrow hb1 hc0 hga;go_loopw [15] (fun i wr => ∃ j : Nat, j <= l.length /\ i = .int .i64 j /\ Jgb wr w.heap.size (Jdy (Jbc n (l.take j))) /\ Rcs wr A l.length l /\ Below w.heap.size w wr) (fun i _ => l.length - (intOf i).toNat)
 case atStart => exact ⟨0, Nat.zero_le _, rfl, hc1, hrs, hbw⟩
 case round =>
  clear hc1 hrs hbw;obtain ⟨j, hj, rfl, hcn, hrs, hbw⟩ := hrel;by_cases hlt : j < l.length
  · obtain ⟨b, off, rfl, hb, X⟩ := hrs.get hlt
    obtain ⟨r0, r1, r2, r3, r4, r5, r6⟩ := X;have hnm := hrs.nm _ (List.getElem_mem hlt);have hcb := J4t n (l.take j) (Jco (l[j]'hlt).nm.toList (max n 1));have hlen := J4u n (l.take j);have hjj : (l.take j).length = j := by rw [List.length_take]; omega
    rw [hjj] at hcb hlen;have HT := zI (show Jdy (Jbc n (l.take (j + 1))) = bump (Jco (l[j]'hlt).nm.toList (max n 1)) (Jdy (Jbc n (l.take j))) from by rw [List.take_succ_eq_append_getElem hlt, Jgc, Jc3]);have hk := Jvd (l[j]'hlt).nm.toList (max n 1) (by omega);have hq : Jco (l[j]'hlt).nm.toList (max n 1) = Jco (l[j]'hlt).nm.toList (max n 1) := rfl;generalize Jdy (Jbc n (l.take j)) = cs at *;generalize (l[j]'hlt) = x at *;obtain ⟨q, hq⟩ : ∃ q, Jco x.nm.toList (max n 1) = q := ⟨_, rfl⟩;rw [hq] at hcb HT hk;have HQ := zI hq;clear hq;obtain ⟨D, hown, hrc⟩ := hcn.own;have hat0 := hrc.at_ q;have hput := hrc.put q;have hwf : (Lit.int .i64 (atc cs q + 1)).wf = true := wf_i64 (by omega);obtain ⟨z, hz⟩ : ∃ z, atc cs q = z := ⟨_, rfl⟩;rw [hz] at hat0 hput hwf hcb;have HAT := zI hat0;have HPUT := zI hput;clear hz hat0 hput;have hcb1 := hcb.1;have hcb2 : z <= 1000000 := (by omega);have HB := zI hcb.2;have HLEN := zI hlen;have HJJ := zI hjj;clear hcb hlen hjj;have hsz1 : w.heap.size < wr.heap.size := hcn.lt;have hblk0 := hcn.nocell
    have HNC := zI (show ∀ o, (wr.alloc (.cells #[.string x.nm, .int .i64 x.st, .int .i64 x.ag.c, .int .i64 x.ag.hi, .int .u64 x.ag.lo, .int .i64 x.ag.mn, .int .i64 x.ag.mx] 169)).cell? ⟨w.heap.size, o, none⟩ = none from fun o => by
     rw [World.cell?_alloc_past _ _ _ hsz1]; exact hblk0 o)
    clear hblk0;have HCL := zI (show cs.length < maxLen from by have := HLEN.out; unfold maxLen; omega)
    go_wp2_with (first
     | (go_at_call 170; refine (Jnn x.nm (max n 1) _ hnm).mono ?_; rw [HQ.out]; rintro e w2 ⟨rfl, rfl⟩)
     | (at_lookup; refine wpList_lookup_own_int _ rfl _ _ 273 rfl 3 3 .i64 Jcf Tryz.underlying273 Tryz.underlying3 (Jzk _) w.heap.size _ D rfl (hown.alloc _) _ _ rfl (keyOf_int_mk Tryz.underlying3 hk) ?_; intro c hat hwc; obtain rfl : z = c := (by have := hat.symm.trans HAT.out; simpa using this.symm); clear hat hwc)
     | (at_mapUpdate; refine wpList_mapUpdate_own _ rfl _ _ _ 273 rfl 3 3 Jcf Tryz.underlying273 (plainElem Tryz.prog 3) w.heap.size cs.length D rfl (hown.alloc _) HCL.out _ _ (.int .i64 q) rfl rfl (keyOf_int_mk Tryz.underlying3 hk) (.lit (.int .i64 (z + 1))) [] (plainElem_int Tryz.underlying3 hwf) ?_; intro w3 hown3 hg3))
    have hcn3 := Jgb.mk' hown3 HPUT.out;have hb3 : Below w.heap.size w w3 := (hbw.alloc (by omega) _).grown hg3 (by simp; omega) (fun k hk => by cases hk; exact Nat.le_refl _);have hrs3 := (hrs.below ((Below.refl _ _).alloc (Nat.le_refl _) (.cells #[.string x.nm, .int .i64 x.st, .int .i64 x.ag.c, .int .i64 x.ag.hi, .int .u64 x.ag.lo, .int .i64 x.ag.mn, .int .i64 x.ag.mx] 169))).keepB HNC.out hg3;go_roundw
    case rel => exact ⟨j + 1, by omega, by go_num, by rw [HT.out]; exact hcn3, hrs3, hb3⟩
    case measure => simp [intOf]; omega
  · have hje : j = l.length := by omega
    subst hje;rw [List.take_length] at hcn;have hbd := Jrc (Jd0 (Jbc n l));rw [Jdz] at hbd;have hsl : (Jbc n l).length = l.length := (by simp [Jbc]);rw [hsl] at hbd;have hall := (Jl3 (Jd0 (Jbc n l))).1;rw [Jdz, hsl] at hall;have hpos := Jd0 (Jbc n l);have HND := zI (show Jhr n l = Jcp (Jdy (Jbc n l)) from rfl);generalize Jdy (Jbc n l) = cs at *;obtain ⟨D, hown, hrc⟩ := hcn.own;have hbsz := hbw.size;have hlt0 := hcn.lt;have hle := fun left : Lit -> Bool => J2r hpos left;clear hsl hrs hcn;go_wp2_with (at_range; refine wpList_range_own _ rfl _ 273 rfl 3 3 Jcf Tryz.underlying273 (plainElem Tryz.prog 3) w.heap.size cs.length _ rfl hown ?_; intro w0 hrg0 hg0 hs0)
    go_frame
    obtain ⟨wo, hwo⟩ : ∃ wo, wo = wr := ⟨_, rfl⟩;subst hwo;have hb0 : Below w.heap.size w w0 := hbw.grown hg0 hbsz (fun k hk => by cases hk)
    go_loopw [8] (fun t wr => ∃ (left : Lit -> Bool) (cnt : Nat), wr.ranges Tryz.prog 3 (plainElem Tryz.prog 3) w.heap.size wo.heap.size cs.length D left cnt /\ t = .int .i64 (Jcp (camC cs left)) /\ Below w.heap.size w wr)
     (fun _ wr => wr.rangeLeft w.heap.size wo.heap.size)
    case atStart => exact ⟨_, _, hrg0, by rw [Jtd hrc]; rfl, hb0⟩
    case round =>
     obtain ⟨left, cnt, hrg, rfl, hbel⟩ := hrel;go_wp2_with (at_next; refine wpList_next_ranges_ii _ rfl _ rfl 3 3 .i64 .i64 Jcf Tryz.underlying3 Tryz.underlying3 w.heap.size wo.heap.size cs.length _ _ _ rfl hrg ?_ ?_)
     · intro _ hl0
       rw [Jzl hl0];go_wp2;go_ret;exact ⟨by rw [HND.out]; rfl, hbel⟩
     · intro x c w1 cnt1 hwx hwc hlx hat hrg1 hlt hg1 hs1 hen
       have hm := hrc.next hat;have hst := Jtc (Jvc hrc.apart (p := (x, c)) hm hlx);have hc1 := hpos _ hm;have hc2 := hall _ hm;have hl1 := hle left;simp only at hc1 hc2 hst;have HST := zI hst;have hl2 := hl1.1;have hl3 : Jcp (camC cs left) <= 1000000 := (by omega);have hc3 : c <= 1000000 := (by omega);clear hst hat hl1 hwx hwc hbd hall hpos hle;have HLT := zI hlt;have HRG := zI hrg;clear hlt hrg;go_wp2;go_roundw
       case rel => exact ⟨_, cnt1, hrg1, by rw [HST.out]; simp only [Jcp]; go_num, hbel.grown hg1 hbel.size (fun k hk => by cases hk; exact hbsz)⟩
       case measure => rw [hrg1.left_eq, HRG.out.left_eq]; exact HLT.out
end Go.Proofs.YtalkkhafcfhglaaGreatDoor
