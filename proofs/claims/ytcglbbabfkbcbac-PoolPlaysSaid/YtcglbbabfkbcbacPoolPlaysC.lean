/-
  PoolPlays: what stands throughout.
-/
import Derived.Test.YtcglbbabfkbcbacPoolEnd
namespace Go.Proofs.Ytcglbbabfkbcbac
open Go.RowKit Go.Maps

/-- A row that stood ahead of a call that wrote a map's block alone: cut off at the size that the world had. -/
theorem cut_ownM {w w' : World} {om : Option Nat} {C : Nat} {e : TypeId} {k : Nat} {v : Value} {n : Nat} {xs : List Value} (hg : w.grownBy w' om) (h : w.ownsRow C e k v n xs) (hm : ∀ m, om = some m → ∀ cs T fr, w.heap[m]? ≠ some (.cells cs T fr)) : (cutAt w' w.heap.size).ownsRow C e k v n xs :=
  cutAt_own (h.kept hg (by
    rcases h.2 with ⟨rfl, _⟩ | ⟨g, cap, cur, rfl, _, hgb, _⟩
    · exact .inl rfl
    · refine .inr fun e => ?_
      exact hm g e.symm _ _ _ hgb)) fun q hq => (h.lt q hq).2
theorem BkInts.cutM {w w' : World} {om : Option Nat} {B : Nat} {fs : Array Value} {ls : List (List Int)} (h : BkInts w B fs ls) (hg : w.grownBy w' om) (hm : ∀ m, om = some m → ∀ cs T fr, w.heap[m]? ≠ some (.cells cs T fr)) : BkInts (cutAt w' w.heap.size) B fs ls := by
  obtain ⟨vX, vs, vW, ws, e1, e2, r1, r2, hap, k1, k2⟩ := h.ex
  exact ⟨⟨vX, vs, vW, ws, e1, e2, cut_ownM hg r1 hm, cut_ownM hg r2 hm, hap, k1.of_own fun _ _ _ _ _ ho => cut_ownM hg ho hm, k2.of_own fun _ _ _ _ _ ho => cut_ownM hg ho hm⟩, h.ok⟩
theorem BkInts.grownM {w w' : World} {om : Option Nat} {B : Nat} {fs : Array Value} {ls : List (List Int)} (h : BkInts w B fs ls) (hg : w.grownBy w' om) (hm : ∀ m, om = some m → ∀ cs T fr, w.heap[m]? ≠ some (.cells cs T fr)) : BkInts w' B fs ls :=
  (h.cutM hg hm).below (cutAt_below hg.size)
/-- What stands while PoolPlays goes on. -/
structure PyS (w0 w : World) (B g sb bk : Nat) (om : Option Nat) (fp n : Int) (f : Int) (nn : Nat) (us S : List Int) (fs : Array Value) : Prop where
  pool : PoolE w g om fp n us
  ty : g < B ∨ PoolTy w g
  mark : w.heap[sb]? = some (.cells (umarks f nn S) 4 (0, 0))
  k : Bx w bk 42 fs
  bel : Below w0.heap.size w0 w
  hm : ∀ m, om = some m → w0.heap.size ≤ m
  hg : w0.heap.size ≤ g
  hsb : w0.heap.size ≤ sb
  hbk : w0.heap.size ≤ bk
  sbB : sb < B
  bkB : bk < B
  gsb : g ≠ sb
  gbk : g ≠ bk
section
variable {w0 w w' : World} {B g sb bk : Nat} {om : Option Nat} {fp n f : Int} {nn : Nat} {us S : List Int} {fs : Array Value}
theorem PyS.sbbk (h : PyS w0 w B g sb bk om fp n f nn us S fs) : bk ≠ sb := by
  rintro rfl
  have h1 := h.mark
  rw [h.k.blk] at h1
  injection h1 with h1
  injection h1 with _ h1
  exact absurd h1 (by decide)
theorem PyS.msb (h : PyS w0 w B g sb bk om fp n f nn us S fs) : some sb ≠ om := fun e => h.pool.mapless sb e.symm _ _ _ h.mark
theorem PyS.mbk (h : PyS w0 w B g sb bk om fp n f nn us S fs) : some bk ≠ om := fun e => h.pool.mapless bk e.symm _ _ _ h.k.blk
theorem PyS.below (h : PyS w0 w B g sb bk om fp n f nn us S fs) (hb : Below w.heap.size w w') : PyS w0 w' B g sb bk om fp n f nn us S fs :=
  ⟨h.pool.below hb, h.ty.imp id (fun ⟨cs, fr, e⟩ => ⟨cs, fr, (hb.block g (lt_of_block e)).trans e⟩), (hb.block sb (lt_of_block h.mark)).trans h.mark, h.k.below hb, h.bel.trans (hb.mono h.bel.size), h.hm, h.hg, h.hsb, h.hbk, h.sbB, h.bkB, h.gsb, h.gbk⟩
theorem PyS.turned {us2 : List Int} (h : PyS w0 w B g sb bk om fp n f nn us S fs) (hp : PoolE w' g om fp n us2) (hg : w.grownBy w' om) : PyS w0 w' B g sb bk om fp n f nn us2 S fs :=
  ⟨hp, h.ty.imp id (fun ⟨cs, fr, e⟩ => ⟨cs, fr, (hg.block g (lt_of_block e) (fun e2 => h.pool.mapless g e2.symm _ _ _ e)).trans e⟩), (hg.block sb (lt_of_block h.mark) h.msb).trans h.mark, h.k.grown hg h.mbk, h.bel.grown hg h.bel.size (fun k hk => h.hm k hk), h.hm, h.hg, h.hsb, h.hbk, h.sbB, h.bkB, h.gsb, h.gbk⟩
theorem PyS.booked {fs' : Array Value} (h : PyS w0 w B g sb bk om fp n f nn us S fs) (hs : Stands B bk 43 w w') (hk : Bx w' bk 42 fs') (hB : w0.heap.size ≤ B) : PyS w0 w' B g sb bk om fp n f nn us S fs' := by
  have hg : w'.heap[g]? = w.heap[g]? := hs.block g h.pool.lt h.gbk (by
    rcases h.ty with ht | ⟨cs, fr, e⟩
    · exact .inl ht
    · refine .inr fun cs' fr' e' => ?_
      rw [e] at e'
      injection e' with e'
      injection e' with _ e'
      exact absurd e' (by decide))
  refine ⟨?_, h.ty.imp id (fun ⟨cs, fr, e⟩ => ⟨cs, fr, hg.trans e⟩), (hs.block sb (lt_of_block h.mark) (Ne.symm h.sbbk) (.inl h.sbB)).trans h.mark, hk, h.bel.trans (hs.below hB h.hbk h.bel.size), h.hm, h.hg, h.hsb, h.hbk, h.sbB, h.bkB, h.gsb, h.gbk⟩
  have hp := h.pool
  cases om with
  | none =>
    obtain ⟨⟨tl, T, e⟩, hr⟩ := hp
    exact ⟨⟨tl, T, hg.trans e⟩, hr⟩
  | some m =>
    have hp' : PoolAt w g m fp n us := hp
    obtain ⟨es, c, h1, r⟩ := hp'.set.own
    have hmm : w'.heap[m]? = w.heap[m]? := hs.block m (lt_of_block h1) (fun e => h.mbk (by rw [e])) (.inr fun cs fr e => by rw [h1] at e; cases e)
    exact (⟨hp'.blk.keep hg, ⟨⟨es, c, hmm.trans h1, r⟩, hp'.set.rising⟩, hp'.rng, hp'.ins⟩ : PoolAt w' g m fp n us)
theorem PyS.marked {S' : List Int} {z : Int} {b : Bool} (h : PyS w0 w B g sb bk om fp n f nn us S fs) (hu : (umarks f nn S).setIfInBounds (z - f).toNat (.bool b) = umarks f nn S') : PyS w0 (w.setCell ⟨sb, (z - f).toNat, none⟩ (.bool b)) B g sb bk om fp n f nn us S' fs := by
  have ho : ∀ q, q ≠ sb → (w.setCell ⟨sb, (z - f).toNat, none⟩ (.bool b)).heap[q]? = w.heap[q]? := fun q hq => heap_setCell_other w ⟨sb, (z - f).toNat, none⟩ q _ hq
  have hg := ho g h.gsb
  refine ⟨?_, h.ty.imp id (fun ⟨cs, fr, e⟩ => ⟨cs, fr, hg.trans e⟩), by rw [← hu]; exact heap_setCell_same w sb _ _ _ _ h.mark, ⟨(ho bk h.sbbk).trans h.k.blk⟩, h.bel.setCell h.hsb _, h.hm, h.hg, h.hsb, h.hbk, h.sbB, h.bkB, h.gsb, h.gbk⟩
  have hp := h.pool
  cases om with
  | none =>
    obtain ⟨⟨tl, T, e⟩, hr⟩ := hp
    exact ⟨⟨tl, T, hg.trans e⟩, hr⟩
  | some m =>
    have hp' : PoolAt w g m fp n us := hp
    obtain ⟨es, c, h1, r⟩ := hp'.set.own
    exact (⟨hp'.blk.keep hg, ⟨⟨es, c, (ho m (fun e => h.msb (by rw [e]))).trans h1, r⟩, hp'.set.rising⟩, hp'.rng, hp'.ins⟩ : PoolAt _ g m fp n us)
theorem PyS.cell {z : Int} (h : PyS w0 w B g sb bk om fp n f nn us S fs) (h1 : f ≤ z) (h2 : z < f + nn) : w.cell? ⟨sb, (z - f).toNat, none⟩ = some (.bool (decide (z ∈ S))) := by
  rw [cell_of_row w sb _ _ _ _ h.mark, umarks_get _ _ _ _ (by omega), show f + (((z - f).toNat : Nat) : Int) = z by omega]
theorem PyS.cellN {t : Nat} (h : PyS w0 w B g sb bk om fp n f nn us S fs) (h2 : t < nn) : w.cell? ⟨sb, t, none⟩ = some (.bool (decide (f + (t : Int) ∈ S))) := by
  rw [cell_of_row w sb _ _ _ _ h.mark, umarks_get _ _ _ _ h2]
theorem PyS.free (h : PyS w0 w B g sb bk om fp n f nn us S fs) (j : Nat) : w.frozen? ⟨sb, j, none⟩ = false := frozen_of_row w sb j _ _ h.mark
end
end Go.Proofs.Ytcglbbabfkbcbac
