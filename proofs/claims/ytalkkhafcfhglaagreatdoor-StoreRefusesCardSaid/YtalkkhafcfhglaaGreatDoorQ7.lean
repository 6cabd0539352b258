/-
  The package ledger: accounts over a pool, as lists; their map as a datum; how they lie in memory.
-/
import Derived.Maps.RangeWalk
import Derived.Maps.Ext
import Derived.Test.YtalkkhafcfhglaaGreatDoorQ6
set_option maxRecDepth 100000
set_option maxHeartbeats 4000000
namespace Go.Proofs.YtalkkhafcfhglaaGreatDoor.Led
open Go.RowKit Go.Maps
structure Acc where
 name : List UInt8
 left : Int
 held : List Int
 ab : Nat
 hb : Nat
def Ja4 (xs : List Acc) (n : List UInt8) : Option Acc := xs.find? (fun a => a.name == n)
def insA (x : Acc) : List Acc -> List Acc
 | [] => [x]
 | y :: r => if bytesBefore x.name y.name then x :: y :: r else y :: insA x r
def setA (xs : List Acc) (n : List UInt8) (f : Acc -> Acc) : List Acc := xs.map fun a => if a.name = n then f a else a
def sumL (xs : List Acc) : Int := (xs.map Acc.left).sum
theorem Jbk {xs : List Acc} {n : List UInt8} {a : Acc} (h : Ja4 xs n = some a) : a ∈ xs /\ a.name = n := by
 unfold Ja4 at h;exact ⟨List.mem_of_find?_eq_some h, by have := List.find?_some h; simpa using this⟩
theorem Jhs {xs : List Acc} {n : List UInt8} (h : Ja4 xs n = none) : ∀ a ∈ xs, a.name ≠ n := by
 unfold Ja4 at h;intro a ha e;have := List.find?_eq_none.1 h a ha;simp [e] at this
theorem Jba {x y : Acc} : ∀ {xs : List Acc}, y ∈ insA x xs ↔ y = x \/ y ∈ xs
 | [] => by simp [insA]
 | z :: r => by
   unfold insA;split
   · simp
   · simp [Jba (xs := r)]
     constructor
     · rintro (h | h | h) <;> simp [h]
     · rintro (h | h | h) <;> simp [h]
theorem Jre (x : Acc) : ∀ xs : List Acc, (insA x xs).length = xs.length + 1
 | [] => rfl
 | z :: r => by
   unfold insA;split
   · rfl
   · simp [Jre x r]
theorem Jrf (x : Acc) : ∀ xs : List Acc, sumL (insA x xs) = x.left + sumL xs
 | [] => by simp [sumL, insA]
 | z :: r => by
   unfold insA;split
   · simp [sumL]
   · have := Jrf x r
     simp only [sumL, List.map_cons, List.sum_cons] at this ⊢;omega
theorem Jeb {xs : List Acc} {n : List UInt8} {f : Acc -> Acc} {y : Acc} : y ∈ setA xs n f ↔ ∃ a ∈ xs, y = if a.name = n then f a else a := by
 unfold setA;rw [List.mem_map];constructor
 · rintro ⟨a, h, rfl⟩; exact ⟨a, h, rfl⟩
 · rintro ⟨a, h, rfl⟩; exact ⟨a, h, rfl⟩
theorem Jnv {xs : List Acc} {n : List UInt8} {f : Acc -> Acc} (h : ∀ a ∈ xs, a.name ≠ n) : setA xs n f = xs := by
 unfold setA
 conv => rhs; rw [<- List.map_id xs]
 exact List.map_congr_left (fun a ha => by simp [h a ha])
theorem Jik {n : List UInt8} {f : Acc -> Acc} : ∀ {xs : List Acc} {a : Acc}, xs.Pairwise (fun x y => x.name ≠ y.name) -> a ∈ xs -> a.name = n -> sumL (setA xs n f) = sumL xs - a.left + (f a).left
 | [], _, _, h, _ => by simp at h
 | z :: r, a, hp, h, hn => by
   rw [List.pairwise_cons] at hp;rcases List.mem_cons.1 h with rfl | h
   · have e : setA r n f = r := Jnv (fun y hy => by have := hp.1 y hy; rw [hn] at this; exact fun e => this e.symm)
     show sumL ((if a.name = n then f a else a) :: setA r n f) = _;rw [e, if_pos hn];simp only [sumL, List.map_cons, List.sum_cons]; omega
   · have hz : z.name ≠ n := by have := hp.1 a h; rw [hn] at this; exact this
     have ih := Jik (f := f) hp.2 h hn;show sumL ((if z.name = n then f z else z) :: setA r n f) = _;rw [if_neg hz];simp only [sumL, List.map_cons, List.sum_cons] at ih ⊢;omega
theorem Ji3 (a : Acc) : ∀ {xs : List Acc}, xs.Pairwise (fun x y => x.name ≠ y.name) -> a ∈ xs -> ∀ p : Acc -> Bool, p a = false ->
  sumL (xs.filter fun x => p x || decide (x.name = a.name)) = sumL (xs.filter p) + a.left
 | [], _, h, _, _ => by simp at h
 | z :: r, hp, h, p, hpa => by
   rw [List.pairwise_cons] at hp;rcases List.mem_cons.1 h with rfl | h
   · have e : (r.filter fun x => p x || decide (x.name = a.name)) = r.filter p := by
      apply List.filter_congr;intro x hx;have h1 := hp.1 x hx;rw [decide_eq_false (fun e : x.name = a.name => h1 e.symm), Bool.or_false]
     rw [List.filter_cons, List.filter_cons, e];simp [hpa, sumL]; omega
   · have hz : z.name ≠ a.name := hp.1 a h
     have ih := Ji3 a hp.2 h p hpa;rw [List.filter_cons, List.filter_cons];simp only [hz, decide_false, Bool.or_false];split
     · simp only [sumL, List.map_cons, List.sum_cons] at ih ⊢
       omega
     · exact ih
theorem Jrg {xs : List Acc} (h : ∀ a ∈ xs, 0 <= a.left) : 0 <= sumL xs := by
 induction xs with
 | nil => simp [sumL]
 | cons z r ih =>
   have := ih (fun a ha => h a (by simp [ha]));have := h z (by simp);simp only [sumL, List.map_cons, List.sum_cons] at *;omega
theorem Jf6 {xs : List Acc} (h : ∀ a ∈ xs, 0 <= a.left) (p : Acc -> Bool) : 0 <= sumL (xs.filter p) /\ sumL (xs.filter p) <= sumL xs := by
 induction xs with
 | nil => simp [sumL]
 | cons z r ih =>
   have h1 := ih (fun a ha => h a (by simp [ha]));have h2 := h z (by simp);rw [List.filter_cons];split <;> (simp only [sumL, List.map_cons, List.sum_cons] at *; omega)
theorem Jgf {xs : List Acc} (h : ∀ a ∈ xs, 0 <= a.left) {a : Acc} (ha : a ∈ xs) : a.left <= sumL xs := by
 induction xs with
 | nil => simp at ha
 | cons z r ih =>
   have h0 := Jrg (xs := r) (fun a ha => h a (by simp [ha]));have h2 := h z (by simp);simp only [sumL, List.map_cons, List.sum_cons] at *;rcases List.mem_cons.1 ha with rfl | ha
   · omega
   · have := ih (fun a ha => h a (by simp [ha])) ha
     omega
def Jbo (v : Value) : Option (DataW Unit × List MemPlace) := match v with
 | .pointer none => some (.nil, [])
 | .pointer (some ⟨b, 0, none⟩) => some (.lit (.int .i64 b), [])
 | _ => none
theorem Jtg (b : Nat) : Jbo (.pointer (some ⟨b, 0, none⟩)) = some (.lit (.int .i64 b), []) := rfl
theorem Jpz : Jbo (.pointer none) = some (.nil, []) := rfl
theorem Jgg {v : Value} {z : DataW Unit × List MemPlace} (h : Jbo v = some z) : (v = .pointer none /\ z = (.nil, [])) \/ ∃ b : Nat, v = .pointer (some ⟨b, 0, none⟩) /\ z = (.lit (.int .i64 b), []) := by
 unfold Jbo at h;split at h
 · cases h; exact .inl ⟨rfl, rfl⟩
 · next b => cases h; exact .inr ⟨b, rfl, rfl⟩
 · cases h
def accD (xs : List Acc) : DataW Unit := .map (xs.map fun a => (.string a.name, .lit (.int .i64 a.ab)))
theorem Jp0 (xs : List Acc) (n : List UInt8) (z : DataW Unit) : (accD xs).atKey (.string n) z = match Ja4 xs n with | some a => .lit (.int .i64 a.ab) | none => z := by
 unfold accD DataW.atKey Ja4;simp only [List.find?_map, Function.comp_def, Lit.sameKey];cases xs.find? (fun a => a.name == n) <;> rfl
theorem Jnw (xs : List Acc) : Maps.size (accD xs) = xs.length := by
 unfold accD; rw [Maps.size_eq, List.length_map]
theorem Jzo (xs : List Acc) (n : List UInt8) : Maps.has (accD xs) (.string n) = xs.any (fun a => a.name == n) := by
 unfold accD;rw [Maps.has_eq, List.any_map]; rfl
theorem Ji4 (xs : List Acc) (n : List UInt8) : ((xs.map fun a => ((.string a.name, .lit (.int .i64 a.ab)) : Lit × DataW Unit)).filter fun p => !p.1.sameKey (.string n)) = (xs.filter fun a => decide (a.name ≠ n)).map fun a => (.string a.name, .lit (.int .i64 a.ab)) := by
 rw [List.filter_map]
 congr 1
 apply List.filter_congr;intro x _;rw [Bool.eq_iff_iff]; simp [Lit.sameKey]
theorem Jzp (xs : List Acc) (n : List UInt8) : (accD xs).del (.string n) = accD (xs.filter fun a => decide (a.name ≠ n)) := by
 unfold accD DataW.del;simp only;rw [Ji4]
theorem Ji5 (x : Acc) : ∀ xs : List Acc, DataW.insert ((.string x.name, .lit (.int .i64 x.ab)) : Lit × DataW Unit) (xs.map fun a => (.string a.name, .lit (.int .i64 a.ab))) = (insA x xs).map fun a => (.string a.name, .lit (.int .i64 a.ab))
 | [] => rfl
 | y :: r => by
   unfold insA;simp only [List.map_cons, DataW.insert, Lit.before];by_cases hb : bytesBefore x.name y.name = true
   · simp [hb]
   · simp [hb, Ji5 x r]
theorem Jzq (xs : List Acc) (x : Acc) (h : ∀ a ∈ xs, a.name ≠ x.name) : (accD xs).put (.string x.name) (.lit (.int .i64 x.ab)) = accD (insA x xs) := by
 unfold accD DataW.put;simp only;rw [Ji4, List.filter_eq_self.2 (fun a ha => decide_eq_true (h a ha)), Ji5]
theorem Jzr (xs : List Acc) (n : List UInt8) (f : Acc -> Acc) (h1 : ∀ a, (f a).name = a.name) (h2 : ∀ a, (f a).ab = a.ab) : accD (setA xs n f) = accD xs := by
 unfold accD setA;rw [List.map_map]
 congr 1
 apply List.map_congr_left;intro a _;simp only [Function.comp];split <;> simp [h1, h2]
theorem Jht : Keyed Tryz.prog 9 := string_keyed Tryz.underlying9
theorem Jzs {w : World} {mm k : Nat} {xs : List Acc} (h : w.ownsMap Tryz.prog 9 Jbo mm k (accD xs)) : xs.Pairwise (fun x y => x.name ≠ y.name) := by
 obtain ⟨es, he, hp, _⟩ := h.entries Jht;have e : es = xs.map fun a => (.string a.name, .lit (.int .i64 a.ab)) := by injection he with he; exact he.symm
 rw [e, List.pairwise_map] at hp;exact hp.imp (fun hab e => hab (by rw [e]))
structure Je3 (w : World) (B : Nat) (a : Acc) : Prop where
 blk : w.heap[a.ab]? = some (.cells #[.int .i64 a.left, .map (some a.hb)] 186 (0, 0))
 set : Jbf w a.hb a.held
 low : B <= a.ab /\ B <= a.hb
theorem Je3.cells {w : World} {B : Nat} {a : Acc} (h : Je3 w B a) : w.cell? ⟨a.ab, 0, none⟩ = some (.int .i64 a.left) /\ w.cell? ⟨a.ab, 1, none⟩ = some (.map (some a.hb)) /\ w.frozen? ⟨a.ab, 0, none⟩ = false :=
 ⟨cell_of_row w a.ab 0 _ _ _ h.blk, cell_of_row w a.ab 1 _ _ _ h.blk, frozen_of_row w a.ab 0 _ _ h.blk⟩
theorem Je3.keep {w w' : World} {B : Nat} {a : Acc} {row : Option Nat} (h : Je3 w B a) (hg : w.grownBy w' row) (h1 : some a.ab ≠ row) (h2 : some a.hb ≠ row) : Je3 w' B a :=
 ⟨(hg.block _ (lt_of_block h.blk) h1).trans h.blk, h.set.grown hg h2, h.low⟩
theorem Je3.ne {w : World} {B : Nat} {a b : Acc} (h : Je3 w B a) (k : Je3 w B b) : a.ab ≠ b.hb := by
 intro e;obtain ⟨es, c, h1, _⟩ := k.set.own;have := h.blk;rw [e, h1] at this; cases this
theorem Je3.ne_map {w : World} {B b : Nat} {a : Acc} {us : List Int} (h : Je3 w B a) (k : Jbf w b us) : a.ab ≠ b := by
 intro e;obtain ⟨es, c, h1, _⟩ := k.own;have := h.blk;rw [e, h1] at this; cases this
structure Jaf (w : World) (B g m mm : Nat) (f n : Int) (us : List Int) (xs : List Acc) : Prop where
 pool : Jat w g m f n us
 c3 : w.cell? ⟨g, 3, none⟩ = some (.map (some mm))
 own : w.ownsMap Tryz.prog 9 Jbo mm xs.length (accD xs)
 acc : ∀ a ∈ xs, Je3 w B a
 abs : ∀ a ∈ xs, ∀ b ∈ xs, a.ab = b.ab -> a.name = b.name
 hbs : ∀ a ∈ xs, ∀ b ∈ xs, a.hb = b.hb -> a.name = b.name
 mh : ∀ a ∈ xs, a.hb ≠ m /\ a.hb ≠ mm
 mne : m ≠ mm
 low : B <= g /\ B <= m /\ B <= mm
structure Ja1 (n : Int) (us : List Int) (xs : List Acc) : Prop where
 name : ∀ a ∈ xs, 1 <= a.name.length /\ a.name.length <= 15
 pos : ∀ a ∈ xs, 0 <= a.left
 room : sumL xs + us.length <= n
 held : ∀ z, z ∈ us ↔ ∃ a ∈ xs, z ∈ a.held
 once : ∀ a ∈ xs, ∀ b ∈ xs, ∀ z, z ∈ a.held -> z ∈ b.held -> a.name = b.name
structure Jad (w : World) (B g m mm : Nat) (f n : Int) (us : List Int) (xs : List Acc) : Prop where
 mem : Jaf w B g m mm f n us xs
 law : Ja1 n us xs
section
variable {w w' : World} {B g m mm : Nat} {f n : Int} {us : List Int} {xs : List Acc}
theorem Jaf.apart (h : Jaf w B g m mm f n us xs) : xs.Pairwise (fun x y => x.name ≠ y.name) := Jzs h.own
theorem Jaf.one (h : Jaf w B g m mm f n us xs) {a b : Acc} (ha : a ∈ xs) (hb : b ∈ xs) (e : a.name = b.name) : a = b := by
 have hp := h.apart
 have key : ∀ {l : List Acc}, l.Pairwise (fun x y => x.name ≠ y.name) -> a ∈ l -> b ∈ l -> a = b := by
  intro l
  induction l with
  | nil => intro _ h; simp at h
  | cons z r ih =>
    intro hp ha hb;rw [List.pairwise_cons] at hp;rcases List.mem_cons.1 ha with h1 | h1 <;> rcases List.mem_cons.1 hb with h2 | h2
    · rw [h1, h2]
    · rw [<- h1] at hp; exact absurd e (hp.1 b h2)
    · rw [<- h2] at hp; exact absurd e.symm (hp.1 a h1)
    · exact ih hp.2 h1 h2
 exact key hp ha hb
theorem Jaf.bel (h : Jaf w B g m mm f n us xs) (hb : Below w.heap.size w w') : Jaf w' B g m mm f n us xs :=
 ⟨h.pool.below hb, (hb.cell (p := ⟨g, 3, none⟩) h.pool.lt).trans h.c3, h.own.kept (Jaa hb none) (by simp), fun a ha => (h.acc a ha).keep (Jaa hb none) (by simp) (by simp),
  h.abs, h.hbs, h.mh, h.mne, h.low⟩
theorem Jaf.ab_ne (h : Jaf w B g m mm f n us xs) {a : Acc} (ha : a ∈ xs) : a.ab ≠ g /\ a.ab ≠ m /\ a.ab ≠ mm := by
 have k := h.acc a ha;refine ⟨fun e => ?_, k.ne_map h.pool.set, fun e => ?_⟩
 · obtain ⟨tl, T, e2⟩ := h.pool.blk
   have := k.blk;rw [e, e2] at this;injection this with this;injection this with this;have := congrArg Array.toList this;simp at this
 · obtain ⟨es, c, h1, _⟩ := h.own
   have := k.blk;rw [e, h1] at this; cases this
theorem Jaf.g_ne (h : Jaf w B g m mm f n us xs) : g ≠ m /\ g ≠ mm /\ ∀ a ∈ xs, g ≠ a.hb := by
 obtain ⟨tl, T, e2⟩ := h.pool.blk;refine ⟨h.pool.ne, fun e => ?_, fun a ha e => ?_⟩
 · obtain ⟨es, c, h1, _⟩ := h.own
   rw [e, h1] at e2; cases e2
 · obtain ⟨es, c, h1, _⟩ := (h.acc a ha).set.own
   rw [e, h1] at e2; cases e2
theorem Jaf.keep_c3 (h : Jaf w B g m mm f n us xs) {row : Option Nat} (hg : w.grownBy w' row) (hne : some g ≠ row) : w'.cell? ⟨g, 3, none⟩ = some (.map (some mm)) :=
 (World.cell?_of_block (a := ⟨g, 3, none⟩) (hg.block g h.pool.lt hne)).trans h.c3
theorem Jaf.pooled (h : Jaf w B g m mm f n us xs) {us' : List Int} (hp : Jat w' g m f n us') (hg : w.grownBy w' (some m)) : Jaf w' B g m mm f n us' xs :=
 ⟨hp, h.keep_c3 hg (fun e => h.g_ne.1 (by injection e)), h.own.kept hg (fun e => h.mne (by injection e with e; exact e.symm)),
  fun a ha => (h.acc a ha).keep hg (fun e => (h.ab_ne ha).2.1 (by injection e)) (fun e => (h.mh a ha).1 (by injection e)), h.abs, h.hbs, h.mh, h.mne, h.low⟩
theorem Jaf.setTo (h : Jaf w B g m mm f n us xs) {a : Acc} (ha : a ∈ xs) (F : Acc -> Acc) (hF : ∀ x, (F x).name = x.name /\ (F x).ab = x.ab /\ (F x).hb = x.hb)
  (hp : Jat w' g m f n us) (hc : w'.cell? ⟨g, 3, none⟩ = some (.map (some mm))) (ho : w'.ownsMap Tryz.prog 9 Jbo mm xs.length (accD xs))
  (hacc : ∀ x ∈ xs, x.name ≠ a.name -> Je3 w' B x) (hnew : Je3 w' B (F a)) : Jaf w' B g m mm f n us (setA xs a.name F) := by
 have key : ∀ y ∈ setA xs a.name F, ∃ x ∈ xs, y.name = x.name /\ y.ab = x.ab /\ y.hb = x.hb /\ Je3 w' B y := by
  intro y hy;obtain ⟨x, hx, rfl⟩ := Jeb.1 hy;by_cases e : x.name = a.name
  · have e2 : x = a := h.one hx ha e
    subst e2;rw [if_pos rfl];exact ⟨x, hx, (hF x).1, (hF x).2.1, (hF x).2.2, hnew⟩
  · rw [if_neg e]
    exact ⟨x, hx, rfl, rfl, rfl, hacc x hx e⟩
 refine ⟨hp, hc, ?_, fun y hy => ?_, fun y hy z hz e => ?_, fun y hy z hz e => ?_, fun y hy => ?_, h.mne, h.low⟩
 · rw [Jzr xs _ F (fun x => (hF x).1) (fun x => (hF x).2.1)]
   have : (setA xs a.name F).length = xs.length := by unfold setA; simp
   rw [this]; exact ho
 · obtain ⟨_, _, _, _, _, k⟩ := key y hy; exact k
 · obtain ⟨x, hx, e1, e2, e3, _⟩ := key y hy
   obtain ⟨x', hx', e1', e2', e3', _⟩ := key z hz;rw [e1, e1']; exact h.abs x hx x' hx' (by rw [<- e2, <- e2', e])
 · obtain ⟨x, hx, e1, e2, e3, _⟩ := key y hy
   obtain ⟨x', hx', e1', e2', e3', _⟩ := key z hz;rw [e1, e1']; exact h.hbs x hx x' hx' (by rw [<- e3, <- e3', e])
 · obtain ⟨x, hx, e1, e2, e3, _⟩ := key y hy
   rw [e3]; exact h.mh x hx
def Jd1 (v : Int) (a : Acc) : Acc := ⟨a.name, v, a.held, a.ab, a.hb⟩
def Jd2 (S : List Int) (a : Acc) : Acc := ⟨a.name, a.left, S, a.ab, a.hb⟩
theorem Jaf.left (h : Jaf w B g m mm f n us xs) {a : Acc} (ha : a ∈ xs) (v : Int) : Jaf (w.setCell ⟨a.ab, 0, none⟩ (.int .i64 v)) B g m mm f n us (setA xs a.name (Jd1 v)) := by
 have k := h.acc a ha;obtain ⟨n1, n2, n3⟩ := h.ab_ne ha;have hg : w.grownBy (w.setCell ⟨a.ab, 0, none⟩ (.int .i64 v)) (some a.ab) := ⟨rfl, rfl, rfl, by simp, fun i _ hne => heap_setCell_other w ⟨a.ab, 0, none⟩ i _ (fun e => hne (by rw [e]))⟩
 refine h.setTo ha (Jd1 v) (fun x => ⟨rfl, rfl, rfl⟩) (h.pool.far hg (fun e => n1 (by injection e with e; exact e.symm)) (fun e => n2 (by injection e with e; exact e.symm)))
  (h.keep_c3 hg (fun e => n1 (by injection e with e; exact e.symm))) (h.own.kept hg (fun e => n3 (by injection e with e; exact e.symm))) (fun x hx hne => ?_) ?_
 · exact (h.acc x hx).keep hg (fun e => hne (h.abs x hx a ha (by injection e))) (fun e => k.ne (h.acc x hx) (by injection e with e; exact e.symm))
 · exact ⟨heap_setCell_same w a.ab 0 _ _ _ k.blk, k.set.grown hg (fun e => k.ne k (by injection e with e; exact e.symm)), k.low⟩
theorem Jaf.heldTo (h : Jaf w B g m mm f n us xs) {a : Acc} (ha : a ∈ xs) {S : List Int} (hs : Jbf w' a.hb S) (hg : w.grownBy w' (some a.hb)) : Jaf w' B g m mm f n us (setA xs a.name (Jd2 S)) := by
 have k := h.acc a ha;obtain ⟨n1, n2⟩ := h.mh a ha
 refine h.setTo ha (Jd2 S) (fun x => ⟨rfl, rfl, rfl⟩) (h.pool.far hg (fun e => h.g_ne.2.2 a ha (by injection e)) (fun e => n1 (by injection e with e; exact e.symm)))
  (h.keep_c3 hg (fun e => h.g_ne.2.2 a ha (by injection e))) (h.own.kept hg (fun e => n2 (by injection e with e; exact e.symm))) (fun x hx hne => ?_) ?_
 · exact (h.acc x hx).keep hg (fun e => (h.acc x hx).ne k (by injection e)) (fun e => hne (h.hbs x hx a ha (by injection e)))
 · exact ⟨(hg.block _ (lt_of_block k.blk) (fun e => k.ne k (by injection e))).trans k.blk, hs, k.low⟩
theorem Jaf.deleted (h : Jaf w B g m mm f n us xs) (nm : List UInt8) {k : Nat} (ho : w'.ownsMap Tryz.prog 9 Jbo mm k (accD (xs.filter fun a => decide (a.name ≠ nm)))) (hg : w.grownBy w' (some mm)) :
  Jaf w' B g m mm f n us (xs.filter fun a => decide (a.name ≠ nm)) := by
 have sub : ∀ {a}, a ∈ (xs.filter fun a => decide (a.name ≠ nm)) -> a ∈ xs := fun h => (List.mem_filter.1 h).1
 refine ⟨h.pool.far hg (fun e => h.g_ne.2.1 (by injection e)) (fun e => h.mne (by injection e)), h.keep_c3 hg (fun e => h.g_ne.2.1 (by injection e)), ?_, fun a ha => ?_,
  fun a ha b hb => h.abs a (sub ha) b (sub hb), fun a ha b hb => h.hbs a (sub ha) b (sub hb), fun a ha => h.mh a (sub ha), h.mne, h.low⟩
 · have := Jbr ho
   rwa [Jnw] at this
 · exact (h.acc a (sub ha)).keep hg (fun e => (h.ab_ne (sub ha)).2.2 (by injection e)) (fun e => (h.mh a (sub ha)).2 (by injection e))
theorem Jaf.made (h : Jaf w B g m mm f n us xs) (hB : B <= w.heap.size) {x : Acc} (hx : x.left = 0 /\ x.held = [] /\ x.hb = w.heap.size /\ x.ab = w.heap.size + 1) {k : Nat}
  (ho : w'.ownsMap Tryz.prog 9 Jbo mm k (accD (insA x xs))) (hg : ((w.alloc (.map #[] 0)).alloc (.cells #[.int .i64 0, .map (some w.heap.size)] 186)).grownBy w' (some mm)) :
  Jaf w' B g m mm f n us (insA x xs) := by
 obtain ⟨x1, x2, x3, x4⟩ := hx;have hb : Below w.heap.size w ((w.alloc (.map #[] 0)).alloc (.cells #[.int .i64 0, .map (some w.heap.size)] 186)) := ((Below.refl _ _).alloc (Nat.le_refl _) _).alloc (by simp) _;have h2 := h.bel hb;have hmm := h.own.lt
 have hnew : Je3 ((w.alloc (.map #[] 0)).alloc (.cells #[.int .i64 0, .map (some w.heap.size)] 186)) B x :=
  ⟨by rw [x4, x1, x3]; have := heap_alloc_new (w.alloc (.map #[] 0)) (.cells #[.int .i64 0, .map (some w.heap.size)] 186); simpa using this,
   by rw [x2, x3]; exact (Jbf.new w).alloc _, by omega, by omega⟩
 have old : ∀ y ∈ xs, y.ab < w.heap.size /\ y.hb < w.heap.size := fun y hy => ⟨lt_of_block (h.acc y hy).blk, (h.acc y hy).set.lt⟩;refine ⟨h2.pool.far hg (fun e => h.g_ne.2.1 (by injection e)) (fun e => h.mne (by injection e)), h2.keep_c3 hg (fun e => h.g_ne.2.1 (by injection e)), ?_, fun a ha => ?_, fun a ha b hb e => ?_, fun a ha b hb e => ?_, fun a ha => ?_, h.mne, h.low⟩
 · have := Jbr ho
   rwa [Jnw] at this
 · rcases Jba.1 ha with rfl | ha
   · exact hnew.keep hg (fun e => by injection e with e; omega) (fun e => by injection e with e; omega)
   · exact (h2.acc a ha).keep hg (fun e => (h.ab_ne ha).2.2 (by injection e)) (fun e => (h.mh a ha).2 (by injection e))
 · rcases Jba.1 ha with h1 | h1 <;> rcases Jba.1 hb with h2 | h2
   · rw [h1, h2]
   · have := old b h2; rw [h1] at e; omega
   · have := old a h1; rw [h2] at e; omega
   · exact h.abs a h1 b h2 e
 · rcases Jba.1 ha with h1 | h1 <;> rcases Jba.1 hb with h2 | h2
   · rw [h1, h2]
   · have := old b h2; rw [h1] at e; omega
   · have := old a h1; rw [h2] at e; omega
   · exact h.hbs a h1 b h2 e
 · rcases Jba.1 ha with rfl | ha
   · have := h.pool.set.lt
     omega
   · exact h.mh a ha
theorem Jad.pool (h : Jad w B g m mm f n us xs) : Jat w g m f n us := h.mem.pool
theorem Jad.c3 (h : Jad w B g m mm f n us xs) : w.cell? ⟨g, 3, none⟩ = some (.map (some mm)) := h.mem.c3
theorem Jad.own (h : Jad w B g m mm f n us xs) : w.ownsMap Tryz.prog 9 Jbo mm xs.length (accD xs) := h.mem.own
theorem Jad.acc (h : Jad w B g m mm f n us xs) : ∀ a ∈ xs, Je3 w B a := h.mem.acc
theorem Jad.apart (h : Jad w B g m mm f n us xs) : xs.Pairwise (fun x y => x.name ≠ y.name) := h.mem.apart
theorem Jad.pos (h : Jad w B g m mm f n us xs) : ∀ a ∈ xs, 0 <= a.left := h.law.pos
theorem Jad.bel (h : Jad w B g m mm f n us xs) (hb : Below w.heap.size w w') : Jad w' B g m mm f n us xs := ⟨h.mem.bel hb, h.law⟩
theorem Jad.few (h : Jad w B g m mm f n us xs) : 0 <= sumL xs /\ sumL xs <= n - us.length /\ n <= 4096 /\ (us.length : Int) <= n := by
 have := Jrg h.pos;have := h.law.room;have := h.pool.rng;have := h.pool.size_le;omega
theorem Jad.left_bd (h : Jad w B g m mm f n us xs) {a : Acc} (ha : a ∈ xs) : 0 <= a.left /\ a.left <= 4096 := by
 have := h.few;have := Jgf h.pos ha;have := h.pos a ha;omega
theorem Jad.sub (h : Jad w B g m mm f n us xs) {a : Acc} (ha : a ∈ xs) : ∀ z ∈ a.held, z ∈ us := fun z hz => (h.law.held z).2 ⟨a, ha, hz⟩
end
def Jke (o : Option Acc) : Value := .pointer (o.map fun a => ⟨a.ab, 0, none⟩)
theorem Jzt (w : World) : (zeroValue 183).run Tryz.prog w = .ok (.pointer none) w := by kernel_rfl
theorem Jil {w : World} {mm k : Nat} {xs : List Acc} (h : w.ownsMap Tryz.prog 9 Jbo mm k (accD xs)) (s : ByteArray) (hs : s.size <= maxLen) :
  (Instr.lookup 106 (.map (some mm)) (.string s) false).run Tryz.prog w = .ok (Jke (Ja4 xs s.data.toList)) w := by
 obtain ⟨v, ps, hrun, hv⟩ := h.lookup Jht Tryz.underlying106 (Jzt w) Jpz (WideMaps.keyOf_string_mk Tryz.underlying9 hs);rw [hrun];rw [Jp0] at hv;unfold Jke;rcases Jgg hv with ⟨rfl, e⟩ | ⟨b, rfl, e⟩
 · cases hf : Ja4 xs s.data.toList with
   | none => rfl
   | some a => rw [hf] at e; exact absurd (Prod.mk.inj e).1 (fun h => nomatch h)
 · cases hf : Ja4 xs s.data.toList with
   | none => rw [hf] at e; exact absurd (Prod.mk.inj e).1 (fun h => nomatch h)
   | some a =>
     rw [hf] at e;have e1 := DataW.lit.inj (Prod.mk.inj e).1;have e2 := (Lit.int.inj e1).2;have : a.ab = b := (by omega);subst this; rfl
end Go.Proofs.YtalkkhafcfhglaaGreatDoor.Led
