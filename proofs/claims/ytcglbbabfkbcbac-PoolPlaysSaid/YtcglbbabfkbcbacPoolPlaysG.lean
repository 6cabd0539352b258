/-
  PoolPlays: what stands in a round.
-/
import Derived.Test.YtcglbbabfkbcbacPoolPlaysE
import Derived.Test.YtcglbbabfkbcbacBookApartInts
import Derived.Test.YtcglbbabfkbcbacBookIntsL
namespace Go.Proofs.Ytcglbbabfkbcbac
open Go.RowKit Go.Maps

/-- What stands in a round: the step's own block and the list that is lent, too. -/
structure RdS (w0 w : World) (B g sb bk : Nat) (om : Option Nat) (fp n f : Int) (nn : Nat) (us S : List Int) (fs : Array Value) (ls : List (List Int)) (ob C mb mcap : Nat) (o : OpV) : Prop where
  p : PyS w0 w B g sb bk om fp n f nn us S fs
  bi : BkInts w B fs ls
  ob_ : Bx w ob 45 (opCells o).toArray
  m : w.ownsRow C 3 1 (.slice (some ⟨mb, 0, none⟩) (o.len + 1) mcap) (o.len + 1) ((o.zs ++ [lentInts]).flatMap encInts)
  z : Ints w0 .i64 o.A o.len o.zs
section
variable {w0 w w' : World} {B g sb bk : Nat} {om : Option Nat} {fp n f : Int} {nn : Nat} {us S : List Int} {fs : Array Value} {ls : List (List Int)} {ob C mb mcap : Nat} {o : OpV}
theorem RdS.ints (h : RdS w0 w B g sb bk om fp n f nn us S fs ls ob C mb mcap o) : Ints w .i64 o.A o.len o.zs := h.z.below h.p.bel
theorem RdS.below (h : RdS w0 w B g sb bk om fp n f nn us S fs ls ob C mb mcap o) (hb : Below w.heap.size w w') : RdS w0 w' B g sb bk om fp n f nn us S fs ls ob C mb mcap o :=
  ⟨h.p.below hb, h.bi.below hb, h.ob_.below hb, bk_below h.m hb, h.z⟩
/-- A row stands where a map's block is written. -/
theorem own_mapless {row : Option Nat} {D : Nat} {e : TypeId} {k : Nat} {v : Value} {q : Nat} {xs : List Value} (hx : w.ownsRow D e k v q xs) (hg : w.grownBy w' row) (hm : ∀ m, row = some m → ∀ cs T fr, w.heap[m]? ≠ some (.cells cs T fr)) : w'.ownsRow D e k v q xs :=
  hx.kept hg (by
    rcases hx.2 with ⟨rfl, _⟩ | ⟨g, cap, cur, rfl, _, hgb, _⟩
    · exact .inl rfl
    · refine .inr fun e => ?_
      exact hm g e.symm _ _ _ hgb)
theorem bx_mapless {row : Option Nat} {b : Nat} {T : TypeId} {cs : Array Value} (hx : Bx w b T cs) (hg : w.grownBy w' row) (hm : ∀ m, row = some m → ∀ cs T fr, w.heap[m]? ≠ some (.cells cs T fr)) : Bx w' b T cs :=
  hx.grown hg fun e => hm b e.symm _ _ _ hx.blk
theorem RdS.turned {us2 : List Int} (h : RdS w0 w B g sb bk om fp n f nn us S fs ls ob C mb mcap o) (hp : PoolE w' g om fp n us2) (hg : w.grownBy w' om) : RdS w0 w' B g sb bk om fp n f nn us2 S fs ls ob C mb mcap o :=
  ⟨h.p.turned hp hg, h.bi.grownM hg h.p.pool.mapless, bx_mapless h.ob_ hg h.p.pool.mapless, own_mapless h.m hg h.p.pool.mapless, h.z⟩
theorem RdS.booked {fs' : Array Value} {ls' : List (List Int)} (h : RdS w0 w B g sb bk om fp n f nn us S fs ls ob C mb mcap o) (hs : Stands B bk 43 w w') (hk : Bx w' bk 42 fs') (hi : BkInts w' B fs' ls') (hB : w0.heap.size ≤ B) : RdS w0 w' B g sb bk om fp n f nn us S fs' ls' ob C mb mcap o :=
  ⟨h.p.booked hs hk hB, hi, hs.bx h.ob_ (fun e => by
    have h1 := h.ob_.blk
    rw [e, h.p.k.blk] at h1
    injection h1 with h1
    injection h1 with _ h1
    exact absurd h1 (by decide)) (by decide), hs.own h.p.k h.m (by decide) (by decide), h.z⟩
theorem RdS.marked {S' : List Int} {z : Int} {b : Bool} (h : RdS w0 w B g sb bk om fp n f nn us S fs ls ob C mb mcap o) (hu : (umarks f nn S).setIfInBounds (z - f).toNat (.bool b) = umarks f nn S') : RdS w0 (w.setCell ⟨sb, (z - f).toNat, none⟩ (.bool b)) B g sb bk om fp n f nn us S' fs ls ob C mb mcap o := by
  have hx : Bx w sb 4 (umarks f nn S) := ⟨h.p.mark⟩
  refine ⟨h.p.marked hu, h.bi.grown (bk_grown_set w sb _ _) h.p.sbB, h.ob_.other (fun e => ?_) _, h.m.kept (bk_grown_set w sb _ _) (.inr fun e => hx.not_row h.m (by decide) e.symm), h.z⟩
  have h1 := h.ob_.blk
  rw [show ob = sb from e, h.p.mark] at h1
  injection h1 with h1
  injection h1 with _ h1
  exact absurd h1 (by decide)
theorem RdS.row_marked {D : Nat} {v : Value} {q i : Nat} {xs : List Value} {u : Value} (h : RdS w0 w B g sb bk om fp n f nn us S fs ls ob C mb mcap o) (hx : w.ownsRow D 3 1 v q xs) : (w.setCell ⟨sb, i, none⟩ u).ownsRow D 3 1 v q xs := by
  have hs : Bx w sb 4 (umarks f nn S) := ⟨h.p.mark⟩
  exact hx.kept (bk_grown_set w sb _ _) (.inr fun e => hs.not_row hx (by decide) e.symm)
theorem RdS.row_booked {D : Nat} {v : Value} {q : Nat} {xs : List Value} (h : RdS w0 w B g sb bk om fp n f nn us S fs ls ob C mb mcap o) (hs : Stands B bk 43 w w') (hx : w.ownsRow D 3 1 v q xs) : w'.ownsRow D 3 1 v q xs := hs.own h.p.k hx (by decide) (by decide)
/-- Another pool, that stands elsewhere, has turned. -/
theorem RdS.other {gq : Nat} {oq : Option Nat} {fq nq : Int} {uq : List Int} (h : RdS w0 w B g sb bk om fp n f nn us S fs ls ob C mb mcap o) (hq : PoolE w gq oq fq nq uq) (hg : w.grownBy w' oq) (hne : om = none ∨ om ≠ oq) (ho : ∀ m, oq = some m → w0.heap.size ≤ m) : RdS w0 w' B g sb bk om fp n f nn us S fs ls ob C mb mcap o := by
  have hml := hq.mapless
  have hgc : ∃ cs T fr, w.heap[g]? = some (.cells cs T fr) := by
    have hp := h.p.pool
    cases om with
    | none => obtain ⟨⟨tl, T, e⟩, _⟩ := hp; exact ⟨_, _, _, e⟩
    | some m =>
      have hp' : PoolAt w g m fp n us := hp
      obtain ⟨_, _, e⟩ := hp'.blk
      exact ⟨_, _, _, e⟩
  have hgq : some g ≠ oq := fun e => by obtain ⟨_, _, _, h1⟩ := hgc; exact hml g e.symm _ _ _ h1
  have hsq : some sb ≠ oq := fun e => hml sb e.symm _ _ _ h.p.mark
  have hbq : some bk ≠ oq := fun e => hml bk e.symm _ _ _ h.p.k.blk
  refine ⟨⟨h.p.pool.far hg hgq hne, h.p.ty.imp id (fun ⟨cs, fr, e⟩ => ⟨cs, fr, (hg.block g (lt_of_block e) hgq).trans e⟩), (hg.block sb (lt_of_block h.p.mark) hsq).trans h.p.mark, h.p.k.grown hg hbq, h.p.bel.grown hg h.p.bel.size (fun k hk => ho k hk), h.p.hm, h.p.hg, h.p.hsb, h.p.hbk, h.p.sbB, h.p.bkB, h.p.gsb, h.p.gbk⟩, h.bi.grownM hg hml, bx_mapless h.ob_ hg hml, own_mapless h.m hg hml, h.z⟩
/-- The pool's copy takes its place. -/
theorem RdS.instead {g2 : Nat} {om2 : Option Nat} (h : RdS w0 w B g sb bk om fp n f nn us S fs ls ob C mb mcap o) (hb : Below w.heap.size w w') (hp : PoolE w' g2 om2 fp n us) (ht : PoolTy w' g2) (h1 : w.heap.size ≤ g2) (h2 : ∀ m2, om2 = some m2 → w.heap.size ≤ m2) : RdS w0 w' B g2 sb bk om2 fp n f nn us S fs ls ob C mb mcap o := by
  have H := h.below hb
  have hs := lt_of_block h.p.mark
  have hk := h.p.k.lt
  have hz := h.p.bel.size
  exact ⟨⟨hp, .inr ht, H.p.mark, H.p.k, H.p.bel, fun m e => Nat.le_trans hz (h2 m e), Nat.le_trans hz h1, h.p.hsb, h.p.hbk, h.p.sbB, h.p.bkB, by omega, by omega⟩, H.bi, H.ob_, H.m, H.z⟩
/-- At the beginning. -/
theorem pys_start {W : World} (hp : PoolE w g om fp nn []) (hb : Below w0.heap.size w0 w) (hg : w0.heap.size ≤ g) (hm : ∀ m, om = some m → w0.heap.size ≤ m) (hW : W = (w.alloc (.cells (umarks f nn []) 4)).alloc (.cells noFs 42)) :
    PyS w0 W W.heap.size g w.heap.size (w.heap.size + 1) om fp nn f nn [] [] noFs ∧ w0.heap.size ≤ W.heap.size := by
  have h1 : Below w.heap.size w (w.alloc (.cells (umarks f nn []) 4)) := (Below.refl w.heap.size w).alloc (Nat.le_refl _) _
  have e1 : (w.alloc (.cells (umarks f nn []) 4)).heap.size = w.heap.size + 1 := by simp
  have h2 : Below (w.alloc (.cells (umarks f nn []) 4)).heap.size (w.alloc (.cells (umarks f nn []) 4)) W := by rw [hW]; exact (Below.refl _ _).alloc (Nat.le_refl _) _
  have e2 : W.heap.size = w.heap.size + 2 := by rw [hW]; simp
  have h12 : Below w.heap.size w W := h1.trans (h2.mono h1.size)
  have hl := hp.lt
  have hz := hb.size
  refine ⟨⟨hp.below h12, .inl (by omega), ?_, ?_, hb.trans (h12.mono hz), hm, hg, hz, by omega, by omega, by omega, by omega, by omega⟩, by omega⟩
  · have := heap_alloc_new w (.cells (umarks f nn []) 4)
    exact (h2.block w.heap.size (by omega)).trans this
  · rw [hW, ← e1]; exact Bx.new _ _ _
end
/-- How many lists are kept, how long they are, and that no other kind is. -/
structure KpS (fs : Array Value) (ls : List (List Int)) (k : Nat) : Prop where
  few : ls.length ≤ k
  long : ∀ l ∈ ls, l.length ≤ 50000
  nil : ∀ i, i < 16 → i ≠ 2 → i ≠ 3 → fs[i]? = some (.slice none 0 0)
theorem KpS.add {fs fs' : Array Value} {ls : List (List Int)} {l : List Int} {k : Nat} (h : KpS fs ls k) (hl : l.length ≤ 50000) (hf : ∀ i, i ≠ 2 → i ≠ 3 → fs'[i]? = fs[i]?) : KpS fs' (ls ++ [l]) (k + 1) :=
  ⟨by have := h.few; simp; omega, fun x hx => by
    rcases List.mem_append.1 hx with hx | hx
    · exact h.long x hx
    · simp at hx; subst hx; exact hl, fun i h1 h2 h3 => (hf i h2 h3).trans (h.nil i h1 h2 h3)⟩
theorem KpS.more {fs : Array Value} {ls : List (List Int)} {k k' : Nat} (h : KpS fs ls k) (hk : k ≤ k') : KpS fs ls k' := ⟨Nat.le_trans h.few hk, h.long, h.nil⟩
theorem freeTo_in {f : Int} {S : List Int} {t : Nat} (h : f + (t : Int) ∈ S) : freeTo f S (t + 1) = freeTo f S t := by simp [freeTo, h]
theorem freeTo_out {f : Int} {S : List Int} {t : Nat} (h : f + (t : Int) ∉ S) : freeTo f S (t + 1) = freeTo f S t + 1 := by simp [freeTo, h]
theorem usedTo_in {f : Int} {S : List Int} {t : Nat} (h : f + (t : Int) ∈ S) : usedTo f S (t + 1) = usedTo f S t ++ [f + (t : Int)] := by simp [usedTo, h]
theorem usedTo_out {f : Int} {S : List Int} {t : Nat} (h : f + (t : Int) ∉ S) : usedTo f S (t + 1) = usedTo f S t := by simp [usedTo, h]
end Go.Proofs.Ytcglbbabfkbcbac
