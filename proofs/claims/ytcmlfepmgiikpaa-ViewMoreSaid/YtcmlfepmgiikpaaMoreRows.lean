/-
  Reading the lists that view.All and view.Count answered; the boxes of ViewMore.
-/
import Derived.Test.YtcmlfepmgiikpaaMoreLaws
import Derived.Test.YtcmlfepmgiikpaaViewAlive
import Derived.Test.YtcmlfepmgiikpaaSmpRow
import Derived.Test.YtcmlfepmgiikpaaApp
import Derived.Test.YtcmlfepmgiikpaaTakes
namespace Go.Proofs.Ytcmlfepmgiikpaa
open Go.ChangeShapes Go.WideShapes Go.ChangeAt Go.RowKit Go.Deep Go.Maps

/-- One list of the lists. -/
theorem VRows.get {w : World} {B : Nat} {v : Value} {vs : List Value} {Ls : List (List Rc)} (h : VRows w B v vs Ls) {j : Nat} (hj : j < Ls.length) (hok : ∀ x ∈ Ls[j], x.Ok) (hn : Ls[j].length ≤ maxLen) :
    ∃ g off c A cj, v = .slice (some ⟨g, off, none⟩) Ls.length c ∧ g < w.heap.size ∧ w.cell? ⟨g, off + j, none⟩ = some (.slice A Ls[j].length cj) ∧ Rcs w A Ls[j].length Ls[j] := by
  have hj' : j < vs.length := by rw [h.len]; exact hj
  obtain ⟨A, c, rfl, hs⟩ := own_sl h.own
  obtain ⟨g, off, rfl, hg, hc⟩ := hs.get hj'
  obtain ⟨Aj, cj, e, hR⟩ := own_rcs (h.each j hj' hj) hok hn
  rw [e] at hc
  exact ⟨g, off, c, Aj, cj, by rw [h.len], hg, hc, hR⟩
theorem VRows.slice {w : World} {B : Nat} {v : Value} {vs : List Value} {Ls : List (List Rc)} (h : VRows w B v vs Ls) : ∃ A c, v = .slice A Ls.length c := by
  obtain ⟨A, c, e, _⟩ := own_sl h.own
  exact ⟨A, c, by rw [e, h.len]⟩
theorem view_at {w : World} {B : Nat} {v : Value} {vs : List Value} {r : Rch} {l : List Smp} {n : Nat} (h : VRows w B v vs (viewAll r l n)) {j : Nat} (hj : j < n) (hok : ∀ s ∈ l, s.Ok) (hl : l.length ≤ 1000) :
    ∃ g off c A cj, v = .slice (some ⟨g, off, none⟩) n c ∧ g < w.heap.size ∧ w.cell? ⟨g, off + j, none⟩ = some (.slice A (viewL r j l).length cj) ∧ Rcs w A (viewL r j l).length (viewL r j l) := by
  have e : (viewAll r l n)[j]'(by rw [viewAll_len]; exact hj) = viewL r j l := by unfold viewAll; simp
  have hv := view_len r j l
  obtain ⟨g, off, c, A, cj, h1, h2, h3, h4⟩ := h.get (j := j) (by rw [viewAll_len]; exact hj) (by rw [e]; exact view_ok r j l hok) (by rw [e]; unfold maxLen; omega)
  rw [e] at h3 h4
  rw [viewAll_len] at h1
  exact ⟨g, off, c, A, cj, h1, h2, h3, h4⟩
/-- What view.Count answered. -/
structure VInts (w : World) (v : Value) (n : Nat) (zs : List Int) : Prop where
  own : ∃ B, w.ownsRow B 3 1 v n (zs.map (Value.int .i64))
theorem VInts.below {w w' : World} {v : Value} {n : Nat} {zs : List Int} (h : VInts w v n zs) (hb : Below w.heap.size w w') : VInts w' v n zs := by
  obtain ⟨B, h⟩ := h.own
  exact ⟨B, own_below' h hb⟩
theorem VInts.slice {w : World} {v : Value} {n : Nat} {zs : List Int} (h : VInts w v n zs) : ∃ A c, v = .slice A n c := by
  obtain ⟨B, h⟩ := h.own
  obtain ⟨A, c, e, _⟩ := own_sl h
  exact ⟨A, c, e⟩
theorem VInts.get {w : World} {v : Value} {n : Nat} {zs : List Int} (h : VInts w v n zs) (hl : zs.length = n) {j : Nat} (hj : j < n) :
    ∃ g off c, v = .slice (some ⟨g, off, none⟩) n c ∧ g < w.heap.size ∧ w.cell? ⟨g, off + j, none⟩ = some (.int .i64 (zs[j]'(by omega))) := by
  obtain ⟨B, h⟩ := h.own
  obtain ⟨A, c, e, hs⟩ := own_sl h
  obtain ⟨g, off, rfl, hg, hc⟩ := hs.get (j := j) (by simpa [hl] using hj)
  simp only [List.getElem_map] at hc
  exact ⟨g, off, c, e, hg, hc⟩
theorem count_at {w : World} {v : Value} {n : Nat} {r : Rch} {l : List Smp} (h : VInts w v n (countL r l n)) {j : Nat} (hj : j < n) :
    ∃ g off c, v = .slice (some ⟨g, off, none⟩) n c ∧ g < w.heap.size ∧ w.cell? ⟨g, off + j, none⟩ = some (.int .i64 ((recsOf r j l).length : Int)) := by
  obtain ⟨g, off, c, e, hg, hc⟩ := h.get (countL_len r l n) hj
  refine ⟨g, off, c, e, hg, ?_⟩
  rw [hc]
  unfold countL
  simp
/-- What stays: the policy's box, the sample's, the reach's, while calls go on. -/
structure MoS (w0 w' : World) (b g : Nat) (now : Int) (nm : ByteArray) (A0 : Option Addr) (c0 : Nat) (A : Option Addr) (n c : Nat) (B : Option Addr) (d : Nat) (s : Smp) : Prop where
  bp : Bx w' b 24 #[.string nm, .slice A0 n c0]
  bs : Bx w' (b + 1) 28 #[.string s.nm, .int .i64 s.tm, .int .i64 s.vl]
  br : Bx w' g 36 #[.int .i64 now, .string nm, .slice A n c, .slice B 0 d]
  bel : Below w0.heap.size w0 w'
  lt : b + 1 < w0.heap.size ∧ g < w0.heap.size
section
variable {w0 w w' : World} {b g : Nat} {now : Int} {nm : ByteArray} {A0 : Option Addr} {c0 : Nat} {A : Option Addr} {n c : Nat} {B : Option Addr} {d : Nat} {s : Smp}
theorem MoS.below (h : MoS w0 w b g now nm A0 c0 A n c B d s) (hb : Below w.heap.size w w') : MoS w0 w' b g now nm A0 c0 A n c B d s := ⟨h.bp.below hb, h.bs.below hb, h.br.below hb, h.bel.trans (hb.mono h.bel.size), h.lt⟩
theorem MoS.grown (h : MoS w0 w b g now nm A0 c0 A n c B d s) {row : Option Nat} (hg : w.grownBy w' row) (hr : ∀ k, row = some k → w0.heap.size ≤ k) : MoS w0 w' b g now nm A0 c0 A n c B d s := by
  have h1 := h.lt.1
  have h2 := h.lt.2
  exact ⟨h.bp.grown hg (fun e => by have := hr _ e.symm; omega), h.bs.grown hg (fun e => by have := hr _ e.symm; omega), h.br.grown hg (fun e => by have := hr _ e.symm; omega), h.bel.grown hg h.bel.size hr, h.lt⟩
theorem MoS.drew (h : MoS w0 w b g now nm A0 c0 A n c B d s) : MoS w0 w.drew b g now nm A0 c0 A n c B d s := h.below ((Below.refl _ _).drew)
theorem MoS.alloc (h : MoS w0 w b g now nm A0 c0 A n c B d s) (o : Obj) : MoS w0 (w.alloc o) b g now nm A0 c0 A n c B d s := h.below ((Below.refl _ _).alloc (Nat.le_refl _) o)
theorem MoS.anew (h : MoS w0 w b g now nm A0 c0 A n c B d s) : MoS w w b g now nm A0 c0 A n c B d s := ⟨h.bp, h.bs, h.br, Below.refl _ _, h.bs.lt, h.br.lt⟩
theorem MoS.full (h : MoS w0 w b g now nm A0 c0 A n c B d s) : MoS w0 w b g now nm A0 c0 A n c B d s ∧ w.cell? ⟨g, 0, none⟩ = some (.int .i64 now) ∧ w.cell? ⟨g, 1, none⟩ = some (.string nm) ∧ w.cell? ⟨g, 2, none⟩ = some (.slice A n c) ∧ w.cell? ⟨g, 3, none⟩ = some (.slice B 0 d) ∧ w.cell? ⟨b + 1, 0, none⟩ = some (.string s.nm) ∧ w.cell? ⟨b + 1, 1, none⟩ = some (.int .i64 s.tm) ∧ w.cell? ⟨b + 1, 2, none⟩ = some (.int .i64 s.vl) ∧ w.cell? ⟨b, 0, none⟩ = some (.string nm) ∧ w.cell? ⟨b, 1, none⟩ = some (.slice A0 n c0) :=
  ⟨h, h.br.at_ 0 rfl, h.br.at_ 1 rfl, h.br.at_ 2 rfl, h.br.at_ 3 rfl, h.bs.at_ 0 rfl, h.bs.at_ 1 rfl, h.bs.at_ 2 rfl, h.bp.at_ 0 rfl, h.bp.at_ 1 rfl⟩
end
end Go.Proofs.Ytcmlfepmgiikpaa
