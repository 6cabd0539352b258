/-
  ViewTells: what stands throughout the law's walk, and the book's calls at it.
-/
import Derived.Test.YtcglbbabfkbcbadGreatM10
import Derived.Test.YtcglbbabfkbcbadGreatBookIntsR
import Derived.Test.YtcglbbabfkbcbadGreatBookNil
import Derived.Test.YtcglbbabfkbcbadGreatViewAll
namespace Go.Proofs.YtcglbbabfkbcbadGreat
open Go.RowKit Go.Deep

theorem BkAwayInts.stood {w w' : World} {B B' g : Nat} {fs fs' : Array Value} {ls : List (List Int)} {Q : Nat → Prop} (h : BkAwayInts w B fs ls Q) (hs : Stands B' g 49 w w') (hB : Bx w g 44 fs) (h2 : fs'[2]? = fs[2]?) (h3 : fs'[3]? = fs[3]?) : BkAwayInts w' B fs' ls Q := by
  obtain ⟨vX, vs, vW, ws, e1, e2, r1, r2, hap, k1, k2, ha⟩ := h.ex
  exact ⟨⟨vX, vs, vW, ws, h2.trans e1, h3.trans e2, hs.own hB r1 (by decide) (by decide), hs.own hB r2 (by decide) (by decide), hap, k1.of_own fun _ _ _ _ _ ho => hs.own hB ho (by decide) (by decide), k2.of_own fun _ _ _ _ _ ho => hs.own hB ho (by decide) (by decide), ha⟩, h.ok⟩
theorem BkAwayInts.below {w w' : World} {B : Nat} {fs : Array Value} {ls : List (List Int)} {Q : Nat → Prop} (h : BkAwayInts w B fs ls Q) (hb : Below w.heap.size w w') : BkAwayInts w' B fs ls Q := by
  obtain ⟨vX, vs, vW, ws, e1, e2, r1, r2, hap, k1, k2, ha⟩ := h.ex
  exact ⟨⟨vX, vs, vW, ws, e1, e2, bk_below r1 hb, bk_below r2 hb, hap, k1.below hb, k2.below hb, ha⟩, h.ok⟩
theorem VRows.stood {w w' : World} {B C g : Nat} {v : Value} {vs : List Value} {Ls : List (List Rc)} {fs : Array Value} (h : VRows w C v vs Ls) (hs : Stands B g 49 w w') (hB : Bx w g 44 fs) (hq : ∀ b, v.ownBlock = some b → w'.heap[b]? = w.heap[b]?) : VRows w' C v vs Ls := by
  refine ⟨h.len, ⟨h.own.1, ?_⟩, fun i h1 h2 => hs.own hB (h.each i h1 h2) (by decide) (by decide), h.apart, h.off⟩
  rcases h.own.2 with hn | ⟨g', cap, cur, rfl, hb, hg, rest⟩
  · exact .inl hn
  · exact .inr ⟨g', cap, cur, rfl, hb, (hq g' rfl).trans hg, rest⟩
theorem VRows.stoodI {w w' : World} {B C g : Nat} {v : Value} {vs : List Value} {Ls : List (List Rc)} {fs : Array Value} (h : VRows w C v vs Ls) (hs : Stands B g 25 w w') (hB : Bx w g 44 fs) : VRows w' C v vs Ls :=
  ⟨h.len, hs.own hB h.own (by decide) (by decide), fun i h1 h2 => hs.own hB (h.each i h1 h2) (by decide) (by decide), h.apart, h.off⟩
/-- What stands while ViewTells goes on: x, the book, its lists (and blocks that are none of its own). -/
structure VtR (w W : World) (B bx bk : Nat) (P X fs : Array Value) (I : List (List Int)) (R : List (List Rc)) (qb : Nat) (QI QR : Nat → Prop) : Prop where
  bel : Below w.heap.size w W
  box : Bx W bx 33 X
  book : Bx W bk 44 fs
  ints : BkAwayInts W B fs I QI
  recs : BkAwayRecords W B fs R QR
  hB : B ≤ W.heap.size
  nil : ∀ i, i < 16 → i ≠ 2 → i ≠ 3 → i ≠ 4 → i ≠ 5 → fs[i]? = some (.slice none 0 0)
  hx : bx < B
  hk : bk < B
  hxk : bx ≠ bk
  hwx : w.heap.size < bx
  hwk : w.heap.size < bk
  pol : Bx W w.heap.size 24 P
  hq : qb < W.heap.size
  hqk : qb ≠ bk
  qX : ∀ u, fs[4]? = some u → u.ownBlock ≠ some qb
  qW : ∀ u, fs[5]? = some u → u.ownBlock ≠ some qb
  ltI : ∀ q, QI q → q < W.heap.size
  ltR : ∀ q, QR q → q < W.heap.size
section
variable {w W W' : World} {B bx bk qb : Nat} {P X fs : Array Value} {I : List (List Int)} {R : List (List Rc)} {QI QR : Nat → Prop}
theorem VtR.size (h : VtR w W B bx bk P X fs I R qb QI QR) : w.heap.size ≤ W.heap.size := h.bel.size
theorem VtR.below (h : VtR w W B bx bk P X fs I R qb QI QR) (hb : Below W.heap.size W W') : VtR w W' B bx bk P X fs I R qb QI QR :=
  ⟨h.bel.trans (hb.mono h.bel.size), h.box.below hb, h.book.below hb, h.ints.below hb, h.recs.below hb, Nat.le_trans h.hB hb.size, h.nil, h.hx, h.hk, h.hxk, h.hwx, h.hwk, h.pol.below hb, Nat.lt_of_lt_of_le h.hq hb.size, h.hqk, h.qX, h.qW, fun q hq => Nat.lt_of_lt_of_le (h.ltI q hq) hb.size, fun q hq => Nat.lt_of_lt_of_le (h.ltR q hq) hb.size⟩
theorem VtR.less {Q' : Nat → Prop} (h : VtR w W B bx bk P X fs I R qb QI QR) (hQ : ∀ q, Q' q → QR q) : VtR w W B bx bk P X fs I R qb (fun _ => False) Q' :=
  ⟨h.bel, h.box, h.book, h.ints.bk.away (Below.refl _ _) (fun _ h => h.elim), h.recs.less hQ, h.hB, h.nil, h.hx, h.hk, h.hxk, h.hwx, h.hwk, h.pol, h.hq, h.hqk, h.qX, h.qW, fun _ h => h.elim, fun q hq => h.ltR q (hQ q hq)⟩
/-- A new part: what was made since is none of the book's. -/
theorem VtR.turn {qb' : Nat} {QI' QR' : Nat → Prop} (h : VtR w W B bx bk P X fs I R qb QI QR) (hb : Below W.heap.size W W') (hq : qb' = bx ∨ W.heap.size ≤ qb' ∧ qb' < W'.heap.size) (hI : ∀ q, QI' q → W.heap.size ≤ q ∧ q < W'.heap.size) (hR : ∀ q, QR' q → W.heap.size ≤ q ∧ q < W'.heap.size) : VtR w W' B bx bk P X fs I R qb' QI' QR' := by
  have hs := hb.size
  have hxw := h.box.lt
  have hkw := h.book.lt
  obtain ⟨vX, vs, vW, ws, e1, e2, r1, r2, _⟩ := h.recs.ex
  have nq : ∀ {v : Value} {n : Nat} {xs : List Value}, W.ownsRow B 49 1 v n xs → v.ownBlock ≠ some qb' := fun r e => by
    rcases hq with rfl | hq
    · exact h.box.not_row r (by decide) e.symm
    · have := (r.lt _ e).2
      omega
  exact ⟨h.bel.trans (hb.mono h.bel.size), h.box.below hb, h.book.below hb, h.ints.bk.away hb fun q hh => (hI q hh).1, h.recs.bk.away hb fun q hh => (hR q hh).1, Nat.le_trans h.hB hs, h.nil, h.hx, h.hk, h.hxk, h.hwx, h.hwk, h.pol.below hb, by rcases hq with rfl | hq <;> omega, by rcases hq with rfl | hq; exact h.hxk; omega, fun u hu => by rw [e1] at hu; cases hu; exact nq r1, fun u hu => by rw [e2] at hu; cases hu; exact nq r2, fun q hh => (hI q hh).2, fun q hh => (hR q hh).2⟩
theorem VtR.keepR (h : VtR w W B bx bk P X fs I R qb QI QR) {v : Value} {l : List Rc} {C : Nat} (hCB : B ≤ C) (hl : W.ownsRow C 61 7 v l.length (l.flatMap Rc.cells)) (hok : ∀ t ∈ l, t.Ok) (hn : R.length < 250) (hfew : l.length ≤ 100000) (hvQ : ∀ q, v.ownBlock = some q → QR q) :
    Calls Tryz.prog 12 #[.pointer (some ⟨bk, 0, none⟩), v] W fun e W' => e = .returned (.tuple #[]) ∧ ∃ fs', VtR w W' B bx bk P X fs' I (R ++ [l]) qb QI (fun q => QR q ∧ v.ownBlock ≠ some q) ∧ Stands B bk 49 W W' ∧ W'.heap[qb]? = W.heap[qb]? := by
  refine (addRecordsR_any qb bk B fs R v l W QR C hCB h.ltR h.recs h.book hl hok hn hfew h.hB hvQ h.hq h.hqk h.qX h.qW).mono ?_
  rintro e W' ⟨rfl, ⟨fs', hb', hr', ho, hx', hw'⟩, hs, hqe⟩
  have hwB := Nat.le_of_lt (Nat.lt_trans h.hwx h.hx)
  refine ⟨rfl, fs', ⟨h.bel.trans (hs.below hwB (Nat.le_of_lt h.hwk) h.bel.size), ⟨(hs.block bx h.box.lt h.hxk (.inl h.hx)).trans h.box.blk⟩, hb', h.ints.stood hs h.book (ho 2 (by decide) (by decide)) (ho 3 (by decide) (by decide)), hr', Nat.le_trans h.hB hs.size, fun i hi h2 h3 h4 h5 => (ho i h4 h5).trans (h.nil i hi h2 h3 h4 h5), h.hx, h.hk, h.hxk, h.hwx, h.hwk, ⟨(hs.block w.heap.size h.pol.lt (Nat.ne_of_lt h.hwk) (.inl (Nat.lt_trans h.hwx h.hx))).trans h.pol.blk⟩, Nat.lt_of_lt_of_le h.hq hs.size, h.hqk, hx', hw', fun q hh => Nat.lt_of_lt_of_le (h.ltI q hh) hs.size, fun q hh => Nat.lt_of_lt_of_le (h.ltR q hh.1) hs.size⟩, hs, hqe⟩
theorem VtR.keepI (h : VtR w W B bx bk P X fs I R qb QI QR) {v : Value} {l : List Int} {C : Nat} (hCB : B ≤ C) (hl : W.ownsRow C 3 1 v l.length (l.flatMap encInts)) (hok : ∀ t ∈ l, (Lit.int .i64 t).wf = true) (hn : I.length < 250) (hfew : l.length ≤ 100000) (hvQ : ∀ q, v.ownBlock = some q → QI q) :
    Calls Tryz.prog 13 #[.pointer (some ⟨bk, 0, none⟩), v] W fun e W' => e = .returned (.tuple #[]) ∧ ∃ fs', VtR w W' B bx bk P X fs' (I ++ [l]) R qb (fun q => QI q ∧ v.ownBlock ≠ some q) QR ∧ Stands B bk 25 W W' := by
  obtain ⟨vX, vs, vW, ws, e1, e2, r1, r2, _⟩ := h.ints.ex
  refine (addIntsR_any bx bk B fs I v l W QI C hCB h.ltI h.ints h.book hl hok hn hfew h.hB hvQ h.box.lt h.hxk (fun u hu => by rw [e1] at hu; cases hu; exact fun e => h.box.not_row r1 (by decide) e.symm) (fun u hu => by rw [e2] at hu; cases hu; exact fun e => h.box.not_row r2 (by decide) e.symm)).mono ?_
  rintro e W' ⟨rfl, ⟨fs', hb', hr', ho, _, _⟩, hs, _⟩
  have hwB := Nat.le_of_lt (Nat.lt_trans h.hwx h.hx)
  have o4 := ho 4 (by decide) (by decide)
  have o5 := ho 5 (by decide) (by decide)
  refine ⟨rfl, fs', ⟨h.bel.trans (hs.below hwB (Nat.le_of_lt h.hwk) h.bel.size), ⟨(hs.block bx h.box.lt h.hxk (.inl h.hx)).trans h.box.blk⟩, hb', hr', h.recs.stood hs h.book o4 o5, Nat.le_trans h.hB hs.size, fun i hi h2 h3 h4 h5 => (ho i h2 h3).trans (h.nil i hi h2 h3 h4 h5), h.hx, h.hk, h.hxk, h.hwx, h.hwk, ⟨(hs.block w.heap.size h.pol.lt (Nat.ne_of_lt h.hwk) (.inl (Nat.lt_trans h.hwx h.hx))).trans h.pol.blk⟩, Nat.lt_of_lt_of_le h.hq hs.size, h.hqk, fun u hu => h.qX u (o4 ▸ hu), fun u hu => h.qW u (o5 ▸ hu), fun q hh => Nat.lt_of_lt_of_le (h.ltI q hh.1) hs.size, fun q hh => Nat.lt_of_lt_of_le (h.ltR q hh) hs.size⟩, hs⟩
end
/-- The fields of a book that has nothing. -/
def noFs : Array Value := #[.slice none 0 0, .slice none 0 0, .slice none 0 0, .slice none 0 0, .slice none 0 0, .slice none 0 0, .slice none 0 0, .slice none 0 0, .slice none 0 0, .slice none 0 0, .slice none 0 0, .slice none 0 0, .slice none 0 0, .slice none 0 0, .slice none 0 0, .slice none 0 0]
theorem noFs_at (i : Nat) (h : i < 16) : noFs[i]? = some (.slice none 0 0) := by
  have : i = 0 ∨ i = 1 ∨ i = 2 ∨ i = 3 ∨ i = 4 ∨ i = 5 ∨ i = 6 ∨ i = 7 ∨ i = 8 ∨ i = 9 ∨ i = 10 ∨ i = 11 ∨ i = 12 ∨ i = 13 ∨ i = 14 ∨ i = 15 := by omega
  rcases this with rfl | rfl | rfl | rfl | rfl | rfl | rfl | rfl | rfl | rfl | rfl | rfl | rfl | rfl | rfl | rfl <;> rfl
theorem bkInts_nil0 (w : World) (B : Nat) : BkInts w B noFs [] :=
  ⟨⟨.slice none 0 0, [], .slice none 0 0, [], rfl, rfl, World.ownsRow_nil _ _ _ _, World.ownsRow_nil _ _ _ _, .inl rfl, Kept.nil _ _, Kept.nil _ _⟩, by simp⟩
theorem bkRecords_nil0 (w : World) (B : Nat) : BkRecords w B noFs [] :=
  ⟨⟨.slice none 0 0, [], .slice none 0 0, [], rfl, rfl, World.ownsRow_nil _ _ _ _, World.ownsRow_nil _ _ _ _, .inl rfl, Kept.nil _ _, Kept.nil _ _⟩, by simp⟩
/-- The beginning. -/
theorem vt_start {w w1 W : World} {P X : Array Value} (hb : Below w.heap.size w w1) (hp : Bx w1 w.heap.size 24 P) (hW : W = (w1.alloc (.cells X 33)).alloc (.cells noFs 44)) :
    VtR w W W.heap.size w1.heap.size (w1.heap.size + 1) P X noFs [] [] w1.heap.size (fun _ => False) (fun _ => False) := by
  have b1 := (Below.refl w1.heap.size w1).alloc (Nat.le_refl _) (.cells X 33)
  have b2 := b1.alloc (by simp) (.cells noFs 44)
  have hl := hp.lt
  have hs : W.heap.size = w1.heap.size + 2 := by rw [hW]; simp
  have x1 : Bx W w1.heap.size 33 X := by rw [hW]; exact (Bx.new _ _ _).alloc _
  have x2 : Bx W (w1.heap.size + 1) 44 noFs := by
    have := Bx.new (w1.alloc (.cells X 33)) 44 noFs
    rw [hW]
    simpa using this
  rw [← hW] at b2
  have o1 := (bkInts_nil0 W W.heap.size).away (Q := fun _ => False) (Below.refl _ _) (fun _ h => h.elim)
  have o2 := (bkRecords_nil0 W W.heap.size).away (Q := fun _ => False) (Below.refl _ _) (fun _ h => h.elim)
  have n4 : ∀ i, i < 16 → ∀ u, noFs[i]? = some u → u.ownBlock ≠ some w1.heap.size := by
    intro i hi u hu
    rw [noFs_at i hi] at hu
    cases hu
    intro e
    cases e
  exact ⟨hb.trans (b2.mono hb.size), x1, x2, o1, o2, Nat.le_refl _, fun i hi _ _ _ _ => noFs_at i hi, by omega, by omega, by omega, by omega, by omega, hp.below b2, by omega, by omega, n4 4 (by omega), n4 5 (by omega), fun _ h => h.elim, fun _ h => h.elim⟩
/-- How many lists, and how long. -/
structure VtN (I : List (List Int)) (R : List (List Rc)) (a b : Nat) : Prop where
  fewI : I.length ≤ a
  fewR : R.length ≤ b
  longI : ∀ l ∈ I, l.length ≤ 50000
  longR : ∀ l ∈ R, l.length ≤ 50000
theorem VtN.r {I : List (List Int)} {R : List (List Rc)} {a b : Nat} (h : VtN I R a b) {l : List Rc} (hl : l.length ≤ 50000) : VtN I (R ++ [l]) a (b + 1) :=
  ⟨h.fewI, by have := h.fewR; simp; omega, h.longI, fun x hx => by rcases List.mem_append.1 hx with hx | hx; exact h.longR x hx; rw [List.mem_singleton.1 hx]; exact hl⟩
theorem VtN.i {I : List (List Int)} {R : List (List Rc)} {a b : Nat} (h : VtN I R a b) {l : List Int} (hl : l.length ≤ 50000) : VtN (I ++ [l]) R (a + 1) b :=
  ⟨by have := h.fewI; simp; omega, h.fewR, fun x hx => by rcases List.mem_append.1 hx with hx | hx; exact h.longI x hx; rw [List.mem_singleton.1 hx]; exact hl, h.longR⟩
theorem VtN.more {I : List (List Int)} {R : List (List Rc)} {a b c : Nat} (h : VtN I R a b) (hc : b ≤ c) : VtN I R a c := ⟨h.fewI, Nat.le_trans h.fewR hc, h.longI, h.longR⟩
/-- The blocks of the rows that are still to be kept. -/
def QAll (vs : List Value) (i : Nat) (q : Nat) : Prop := ∃ j, i ≤ j ∧ ∃ h : j < vs.length, vs[j].ownBlock = some q
theorem qall_next {vs : List Value} {i : Nat} (hi : i < vs.length) (hap : vs.Pairwise (fun a b => a.ownBlock = none ∨ a.ownBlock ≠ b.ownBlock)) : ∀ q, QAll vs (i + 1) q → QAll vs i q ∧ vs[i].ownBlock ≠ some q := by
  rintro q ⟨j, hj, hjl, e⟩
  refine ⟨⟨j, by omega, hjl, e⟩, fun e2 => ?_⟩
  have := (List.pairwise_iff_getElem.1 hap) i j hi hjl (by omega)
  rw [e2, e] at this
  rcases this with h | h
  · cases h
  · exact h rfl
theorem qall_in {vs : List Value} {i : Nat} (hi : i < vs.length) : ∀ q, vs[i].ownBlock = some q → QAll vs i q := fun _ e => ⟨i, Nat.le_refl i, hi, e⟩
end Go.Proofs.YtcglbbabfkbcbadGreat
