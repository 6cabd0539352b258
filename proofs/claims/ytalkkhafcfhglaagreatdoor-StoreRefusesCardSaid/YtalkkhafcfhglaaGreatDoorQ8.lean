/-
  Several texts in one: LedgerCalls, Box, Chg, LedgerF, LedgerMake.
-/
import Derived.Below
import Derived.Laws.OwnMore
import Derived.Deep.Draws
import Derived.Laws.Rows
import Derived.Test.YtalkkhafcfhglaaGreatDoorQ7
set_option maxRecDepth 100000
set_option maxHeartbeats 4000000
namespace Go.Proofs.YtalkkhafcfhglaaGreatDoor.Led
open Go.RowKit Go.Maps
theorem Jgs {B g m mm : Nat} {f n : Int} {us : List Int} {xs : List Acc} (w : World) (h : Jad w B g m mm f n us xs) :
  Calls Tryz.prog 161 #[.pointer (some ⟨g, 0, none⟩)] w fun e w' => e = .returned (.bool false) /\ w = w' := by
 have c3 := h.c3;have hq := fun W => run_eql_map_nil (P := Tryz.prog) W _ _ _ (some mm) Tryz.underlying106;go_enter Tryz.func161, Tryz.ntmps161;go_wp2;go_ret;exact ⟨rfl, rfl⟩
theorem Jd3 (s : ByteArray) (w : World) (hs : s.size <= maxLen) :
  Calls Tryz.prog 216 #[.string s] w fun e w' => e = .returned (.bool (decide (1 <= s.size /\ s.size <= 15))) /\ w = w' := by
 unfold maxLen at hs;by_cases h1 : 1 <= s.size
 · by_cases h2 : s.size <= 15
   · have HF := zI (decide_eq_true (show 1 <= s.size /\ s.size <= 15 from ⟨h1, h2⟩))
     have hd : decide ((s.size : Int) <= 15) = true := by simp; omega
     go_enter Tryz.func216, Tryz.ntmps216;go_wp2;go_ret;exact ⟨Jag HF.out.symm, rfl⟩
   · have HF := zI (decide_eq_false (show ¬ (1 <= s.size /\ s.size <= 15) from fun h => h2 h.2))
     have hd : decide ((s.size : Int) <= 15) = false := by simp; omega
     go_enter Tryz.func216, Tryz.ntmps216;go_wp2;go_ret;exact ⟨Jag HF.out.symm, rfl⟩
 · have HF := zI (decide_eq_false (show ¬ (1 <= s.size /\ s.size <= 15) from fun h => h1 h.1))
   have hd : decide (1 <= (s.size : Int)) = false := by simp; omega
   go_enter Tryz.func216, Tryz.ntmps216;go_wp2;go_ret;exact ⟨Jag HF.out.symm, rfl⟩
theorem Jb6 {B g m mm : Nat} {f n : Int} {us : List Int} {xs : List Acc} (s : ByteArray) (w : World) (h : Jad w B g m mm f n us xs) (hs : s.size <= maxLen) :
  Calls Tryz.prog 89 #[.pointer (some ⟨g, 0, none⟩), .string s] w fun e w' => e = .returned (Jke (Ja4 xs s.data.toList)) /\ w = w' := by
 have c3 := h.c3;have hlk := Jil h.own s hs;go_enter Tryz.func89, Tryz.ntmps89;go_wp2_with (go_at_call 161; refine (Jgs _ h).mono ?_; rintro e w1 ⟨rfl, rfl⟩)
 go_ret;exact ⟨rfl, rfl⟩
def Jkr (n : Int) (us : List Int) (xs : List Acc) : Int := n - us.length - sumL xs
theorem Jzu (a b : List UInt8) : (Lit.string a).sameKey (.string b) = decide (a = b) := by rw [Bool.eq_iff_iff]; simp [Lit.sameKey]
theorem Jvg {xs : List Acc} (hp : xs.Pairwise (fun x y => x.name ≠ y.name)) {a : Acc} (ha : a ∈ xs) (left : Lit -> Bool) (hl : left (.string a.name) = true) :
  sumL (xs.filter fun x => !(left (.string x.name) && !(Lit.string x.name).sameKey (.string a.name))) = sumL (xs.filter fun x => !left (.string x.name)) + a.left := by
 rw [<- Ji3 a hp ha (fun x => !left (.string x.name)) (by simp [hl])]
 congr 1
 apply List.filter_congr;intro x _;rw [Jzu];cases left (.string x.name) <;> simp
def Jvh (o : Option Nat) : Value := .pointer (o.map fun b => ⟨b, 0, none⟩)
theorem J2w (key : Value) (kl : Lit) (h : keyOf Tryz.prog 9 key = some kl) : ∃ x : ByteArray, key = Value.string x := by
 obtain ⟨s, e, _⟩ := WideMaps.string_of_keyOf Tryz.underlying9 h;exact ⟨s, e⟩
theorem J2x (v : Value) (y : DataW Unit × List MemPlace) (h : Jbo v = some y) : ∃ c, v = Jvh c := by
 rcases Jgg h with ⟨rfl, _⟩ | ⟨b, rfl, _⟩
 · exact ⟨none, rfl⟩
 · exact ⟨some b, rfl⟩
theorem Jzv {xs : List Acc} {x : ByteArray} {kl : Lit} {c : Option Nat} {y : DataW Unit × List MemPlace} (hkey : keyOf Tryz.prog 9 (.string x) = some kl) (hv : Jbo (Jvh c) = some y) (hat : ∀ zd, (accD xs).atKey kl zd = y.1) :
  ∃ a ∈ xs, kl = .string a.name /\ c = some a.ab := by
 obtain ⟨s, e, rfl, _⟩ := WideMaps.string_of_keyOf Tryz.underlying9 hkey;cases hf : Ja4 xs s.data.toList with
 | none =>
   have h1 := hat .nil;have h2 := hat (.lit (.bool true));rw [Jp0, hf] at h1 h2;rw [<- h1] at h2;exact absurd h2 (fun h => nomatch h)
 | some a =>
   have h1 := hat .nil;rw [Jp0, hf] at h1;obtain ⟨ha, hn⟩ := Jbk hf;refine ⟨a, ha, by rw [hn], ?_⟩;rcases Jgg hv with ⟨_, e2⟩ | ⟨b, e1, e2⟩
   · rw [e2] at h1; exact absurd h1 (fun h => nomatch h)
   · rw [e2] at h1
     have e3 := (Lit.int.inj (DataW.lit.inj h1)).2;have e4 : a.ab = b := (by omega);unfold Jvh at e1;cases c with
     | none => cases e1
     | some d =>
       have e5 := Value.pointer.inj e1;simp at e5;rw [e4, e5]
theorem Jnx (xs : List Acc) : sumL (xs.filter fun x => !Maps.has (accD xs) (.string x.name)) = 0 := by
 have e : (xs.filter fun x => !Maps.has (accD xs) (.string x.name)) = [] := by
  rw [List.filter_eq_nil_iff];intro a ha;rw [Jzo]
  simp
  exact ⟨a, ha, rfl⟩
 rw [e]; rfl
theorem Jth {xs : List Acc} {left : Lit -> Bool} (h : ∀ kl, left kl = false) : sumL (xs.filter fun x => !left (.string x.name)) = sumL xs := by
 congr 1
 rw [List.filter_eq_self];intro a _;simp [h]
theorem Jmc {B g m mm : Nat} {f n : Int} {us : List Int} {xs : List Acc} (w : World) (h : Jad w B g m mm f n us xs) :
  Calls Tryz.prog 144 #[.pointer (some ⟨g, 0, none⟩)] w fun e w' => e = .returned (.int .i64 (Jkr n us xs)) /\ Below w.heap.size w w' := by
 have HP := zI h.apart;obtain ⟨b1, b2, b3, b4⟩ := h.few;go_enter Tryz.func144, Tryz.ntmps144
 go_wp2_with (first
  | (go_at_call 161; refine (Jgs _ h).mono ?_; rintro e w1 ⟨rfl, rfl⟩)
  | (go_at_call 215; refine (Jma g m f n us w h.pool).mono ?_; rintro e w1 ⟨rfl, hb1⟩
     have h1 := h.bel hb1;have c3 := h1.c3;have hown := h1.own)
  | (at_range; refine wpList_range_own _ rfl _ 106 rfl 9 183 Jht Tryz.underlying106 Jbo mm _ (accD xs) rfl hown ?_; intro w2 hrg2 hg2 hs2))
 go_frame
 have hbw2 : Below w.heap.size w w2 := hb1.grown hg2 hb1.size (fun j hj => by cases hj);obtain ⟨r, hr⟩ : ∃ r, r = w1.heap.size := ⟨_, rfl⟩;rw [<- hr] at hrg2;rw [<- hr];have hrw : w.heap.size <= r := by rw [hr]; exact hb1.size
 clear hr hown h1 c3 hg2 hs2;go_loopw [3] (fun v wr => ∃ left cnt, wr.ranges Tryz.prog 9 Jbo mm r xs.length (accD xs) left cnt /\ v = .int .i64 (n - us.length - sumL (xs.filter fun x => !left (.string x.name))) /\ Below w.heap.size w wr) (fun _ wr => wr.rangeLeft mm r)
 case atStart => exact ⟨_, _, hrg2, by rw [Jnx]; simp, hbw2⟩
 case round =>
  clear hrg2 hbw2;obtain ⟨left, cnt, hrg, rfl, hbr⟩ := hrel;have hsb := Jf6 h.pos (fun x => !left (.string x.name));obtain ⟨hs1, hs2⟩ := hsb;go_wp2_with (at_next; refine wpList_next_ranges _ rfl _ rfl 9 Jht Jbo Value.string Jvh J2w J2x mm r _ _ _ _ rfl hrg ?_ ?_)
  · intro hc0 hl0
    have HE := zI (Jth (xs := xs) hl0);go_wp2;go_ret;exact ⟨Jbl (by rw [HE.out]; rfl), hbr⟩
  · intro x c kl d ps w3 cnt3 hkey hlk hv hat hrg3 hlt hg3 hsz3 hen
    obtain ⟨a, ha, rfl, rfl⟩ := Jzv hkey hv hat;have HS := zI (Jvg HP.out ha left hlk);have hbr3 := hbr.grown hg3 hbr.size (fun j hj => by cases hj; exact hrw);obtain ⟨d0, d1, d2⟩ := ((h.bel hbr3).acc a ha).cells;have hab := h.left_bd ha;obtain ⟨hab1, hab2⟩ := hab;have hL := zI (show wr.rangeLeft mm r = cnt from hrg.left_eq);have hL3 := zI (show w3.rangeLeft mm r = cnt3 from hrg3.left_eq);clear hlk hv hat;unfold Jvh at hen ⊢;simp only [Option.map_some] at hen ⊢;go_wp2;go_roundw
    case rel => exact ⟨_, _, hrg3, by rw [HS.out]; go_num, hbr3⟩
    case measure => rw [hL.out, hL3.out]; omega
end Go.Proofs.YtalkkhafcfhglaaGreatDoor.Led
namespace Go.Proofs.YtalkkhafcfhglaaGreatDoor
open Go.RowKit
structure Bx (w : World) (g : Nat) (T : TypeId) (cs : Array Value) : Prop where
 blk : w.heap[g]? = some (.cells cs T (0, 0))
section
variable {w w' : World} {g : Nat} {T : TypeId} {cs : Array Value}
theorem Bx.lt (h : Bx w g T cs) : g < w.heap.size := lt_of_block h.blk
theorem Bx.cell (h : Bx w g T cs) (i : Nat) : w.cell? ⟨g, i, none⟩ = cs[i]? := cell_of_row w g i cs T (0, 0) h.blk
theorem Bx.at_ (h : Bx w g T cs) (i : Nat) {v : Value} (e : cs[i]? = some v) : w.cell? ⟨g, i, none⟩ = some v := (h.cell i).trans e
theorem Bx.free (h : Bx w g T cs) (i : Nat) : w.frozen? ⟨g, i, none⟩ = false := frozen_of_row w g i _ _ h.blk
theorem Bx.new (w : World) (T : TypeId) (cs : Array Value) : Bx (w.alloc (.cells cs T)) w.heap.size T cs := ⟨heap_alloc_new w _⟩
theorem Bx.below (h : Bx w g T cs) (hb : Below w.heap.size w w') : Bx w' g T cs := ⟨(hb.block g h.lt).trans h.blk⟩
theorem Bx.alloc (h : Bx w g T cs) (o : Obj) : Bx (w.alloc o) g T cs := h.below ((Below.refl _ _).alloc (Nat.le_refl _) o)
theorem Bx.drew (h : Bx w g T cs) : Bx w.drew g T cs := h.below ((Below.refl _ _).drew)
theorem Bx.set (h : Bx w g T cs) (i : Nat) (u : Value) : Bx (w.setCell ⟨g, i, none⟩ u) g T (cs.setIfInBounds i u) := ⟨heap_setCell_same w g i cs T u h.blk⟩
theorem Bx.other (h : Bx w g T cs) {p : Addr} (hp : g ≠ p.block) (u : Value) : Bx (w.setCell p u) g T cs := ⟨(heap_setCell_other w p g u hp).trans h.blk⟩
theorem Bx.grown (h : Bx w g T cs) {row : Option Nat} (hg : w.grownBy w' row) (hne : some g ≠ row) : Bx w' g T cs := ⟨(hg.block g h.lt hne).trans h.blk⟩
end
structure Chg (F : Nat -> Prop) (w w' : World) : Prop where
 os : w'.os = w.os
 tape : w'.tape = w.tape
 output : w'.output = w.output
 size : w.heap.size <= w'.heap.size
 block : ∀ b, b < w.heap.size -> ¬ F b -> w'.heap[b]? = w.heap[b]?
section
variable {F G : Nat -> Prop} {w w1 w' : World}
theorem Chg.refl (F : Nat -> Prop) (w : World) : Chg F w w := ⟨rfl, rfl, rfl, Nat.le_refl _, fun _ _ _ => rfl⟩
theorem Chg.of_below (h : Below w.heap.size w w') : Chg F w w' := ⟨h.os, h.tape, h.output, h.size, fun b hb _ => h.block b hb⟩
theorem Chg.of_grown {row : Option Nat} (h : w.grownBy w' row) (hF : ∀ b, row = some b -> F b) : Chg F w w' :=
 ⟨h.os, h.tape, h.output, h.size, fun b hb hn => h.block b hb (fun e => hn (hF b e.symm))⟩
theorem Chg.mono (h : Chg F w w') (hF : ∀ b, b < w.heap.size -> F b -> G b) : Chg G w w' := ⟨h.os, h.tape, h.output, h.size, fun b hb hn => h.block b hb (fun hf => hn (hF b hb hf))⟩
theorem Chg.trans (h : Chg F w w1) (k : Chg G w1 w') (hG : ∀ b, G b -> F b \/ w.heap.size <= b) : Chg F w w' :=
 ⟨k.os.trans h.os, k.tape.trans h.tape, k.output.trans h.output, Nat.le_trans h.size k.size, fun b hb hn =>
  (k.block b (Nat.lt_of_lt_of_le hb h.size) (fun hg => by rcases hG b hg with h1 | h1; exact hn h1; omega)).trans (h.block b hb hn)⟩
theorem Chg.then_below (h : Chg F w w1) (k : Below w1.heap.size w1 w') : Chg F w w' :=
 ⟨k.os.trans h.os, k.tape.trans h.tape, k.output.trans h.output, Nat.le_trans h.size k.size, fun b hb hn => (k.block b (Nat.lt_of_lt_of_le hb h.size)).trans (h.block b hb hn)⟩
theorem Chg.after_below (h : Below w.heap.size w w1) (k : Chg G w1 w') (hG : ∀ b, G b -> F b \/ w.heap.size <= b) : Chg F w w' := (Chg.of_below h).trans k hG
theorem Chg.set (w : World) (p : Addr) (u : Value) (hF : F p.block) : Chg F w (w.setCell p u) :=
 ⟨rfl, rfl, rfl, Nat.le_of_eq (World.size_setCell w p u).symm, fun b _ hn => Below.heap_setCell _ _ _ b (fun e => hn (by rw [e]; exact hF))⟩
theorem Chg.below {B : Nat} (h : Chg F w w') (hF : ∀ b, F b -> B <= b) (hB : B <= w.heap.size) : Below B w w' :=
 ⟨h.os, h.tape, h.output, h.size, fun b hb => h.block b (by omega) (fun hf => by have := hF b hf; omega)⟩
theorem Chg.none (h : Chg (fun _ => False) w w') : Below w.heap.size w w' := ⟨h.os, h.tape, h.output, h.size, fun b hb => h.block b hb (fun f => f)⟩
theorem Chg.cell (h : Chg F w w') {p : Addr} (hp : p.block < w.heap.size) (hn : ¬ F p.block) : w'.cell? p = w.cell? p := World.cell?_of_block (w := w) (h.block p.block hp hn)
theorem Bx.chg {g : Nat} {T : TypeId} {cs : Array Value} (h : Bx w g T cs) (hc : Chg F w w') (hn : ¬ F g) : Bx w' g T cs := ⟨(hc.block g h.lt hn).trans h.blk⟩
theorem Jaw {B : Nat} {e : TypeId} {k : Nat} {v : Value} {n : Nat} {xs : List Value} (h : w.ownsRow B e k v n xs) (hc : Chg F w w') (hn : ∀ b, v.ownBlock = some b -> ¬ F b) : w'.ownsRow B e k v n xs := by
 refine ⟨h.1, ?_⟩;rcases h.2 with hz | ⟨g, cap, cur, rfl, hb, hg, rest⟩
 · exact .inl hz
 · exact .inr ⟨g, cap, cur, rfl, hb, (hc.block g (lt_of_block hg) (hn g rfl)).trans hg, rest⟩
end
end Go.Proofs.YtalkkhafcfhglaaGreatDoor
namespace Go.Proofs.YtalkkhafcfhglaaGreatDoor.Led
open Go.RowKit Go.Maps
def LedF (m mm : Nat) (xs : List Acc) (b : Nat) : Prop := b = m \/ b = mm \/ ∃ a ∈ xs, b = a.ab \/ b = a.hb
theorem LedF.pool (m mm : Nat) (xs : List Acc) : LedF m mm xs m := .inl rfl
theorem LedF.map (m mm : Nat) (xs : List Acc) : LedF m mm xs mm := .inr (.inl rfl)
theorem LedF.acc {m mm : Nat} {xs : List Acc} {a : Acc} (h : a ∈ xs) : LedF m mm xs a.ab := .inr (.inr ⟨a, h, .inl rfl⟩)
theorem LedF.held {m mm : Nat} {xs : List Acc} {a : Acc} (h : a ∈ xs) : LedF m mm xs a.hb := .inr (.inr ⟨a, h, .inr rfl⟩)
def Jau (N : Nat) (xs ys : List Acc) : Prop := ∀ y ∈ ys, (∃ x ∈ xs, y.ab = x.ab /\ y.hb = x.hb) \/ (N <= y.ab /\ N <= y.hb)
section
variable {N M m mm b : Nat} {xs ys zs : List Acc}
theorem Jau.refl (N : Nat) (xs : List Acc) : Jau N xs xs := fun y hy => .inl ⟨y, hy, rfl, rfl⟩
theorem Jau.low (h : Jau N xs ys) (hN : M <= N) : Jau M xs ys := fun y hy => (h y hy).imp id fun ⟨a, b⟩ => ⟨Nat.le_trans hN a, Nat.le_trans hN b⟩
theorem Jau.set (h : Jau N xs ys) (nm : List UInt8) (F : Acc -> Acc) (hF : ∀ a, (F a).ab = a.ab /\ (F a).hb = a.hb) : Jau N xs (setA ys nm F) := by
 intro y hy;obtain ⟨x, hx, rfl⟩ := Jeb.1 hy;have := h x hx;split
 · rw [(hF x).1, (hF x).2]; exact this
 · exact this
theorem Jau.toL (h : Jau N xs ys) (nm : List UInt8) (v : Int) : Jau N xs (setA ys nm (Jd1 v)) := h.set nm (Jd1 v) (fun _ => ⟨rfl, rfl⟩)
theorem Jau.toH (h : Jau N xs ys) (nm : List UInt8) (S : List Int) : Jau N xs (setA ys nm (Jd2 S)) := h.set nm (Jd2 S) (fun _ => ⟨rfl, rfl⟩)
theorem Jau.ins (xs : List Acc) {x : Acc} (h1 : N <= x.ab) (h2 : N <= x.hb) : Jau N xs (insA x xs) := by
 intro y hy;rcases Jba.1 hy with rfl | hy
 · exact .inr ⟨h1, h2⟩
 · exact .inl ⟨y, hy, rfl, rfl⟩
theorem Jau.sub (h : Jau N xs ys) (hs : ∀ z ∈ zs, z ∈ ys) : Jau N xs zs := fun z hz => h z (hs z hz)
theorem Jau.trans (h : Jau N xs ys) (k : Jau M ys zs) (hN : N <= M) : Jau N xs zs := by
 intro z hz;rcases k z hz with ⟨y, hy, e1, e2⟩ | ⟨a, b⟩
 · rw [e1, e2]; exact h y hy
 · exact .inr ⟨Nat.le_trans hN a, Nat.le_trans hN b⟩
theorem Jau.inF (h : Jau N xs ys) (hb : LedF m mm ys b) : LedF m mm xs b \/ N <= b := by
 rcases hb with rfl | rfl | ⟨a, ha, e⟩
 · exact .inl (.inl rfl)
 · exact .inl (.inr (.inl rfl))
 · rcases h a ha with ⟨x, hx, e1, e2⟩ | ⟨h1, h2⟩
   · rcases e with rfl | rfl
     · rw [e1]; exact .inl (.inr (.inr ⟨x, hx, .inl rfl⟩))
     · rw [e2]; exact .inl (.inr (.inr ⟨x, hx, .inr rfl⟩))
   · rcases e with rfl | rfl
     · exact .inr h1
     · exact .inr h2
end
section
variable {F : Nat -> Prop} {w w1 w' : World}
theorem Jc0 (h : Chg F w w1) {row : Option Nat} (k : w1.grownBy w' row) (hF : ∀ b, row = some b -> F b \/ w.heap.size <= b) : Chg F w w' :=
 h.trans (Chg.of_grown (F := fun b => row = some b) k (fun _ e => e)) hF
theorem Jvi (h : Chg F w w1) {b i : Nat} (v : Value) (hF : F b \/ w.heap.size <= b) : Chg F w (w1.setCell ⟨b, i, none⟩ v) :=
 h.trans (Chg.set (F := fun x => x = b) w1 ⟨b, i, none⟩ v rfl) (fun x e => by rw [e]; exact hF)
end
abbrev AV := List UInt8 × Int × List Int
def vw (a : Acc) : AV := (a.name, a.left, a.held)
def view (xs : List Acc) : List AV := xs.map vw
def insV (x : AV) : List AV -> List AV
 | [] => [x]
 | y :: r => if bytesBefore x.1 y.1 then x :: y :: r else y :: insV x r
def Jmd (vs : List AV) (nm : List UInt8) : List AV := if vs.any (fun v => v.1 == nm) then vs else insV (nm, 0, []) vs
def setV (vs : List AV) (nm : List UInt8) (F : AV -> AV) : List AV := vs.map fun v => if v.1 = nm then F v else v
def addV (k : Int) (v : AV) : AV := (v.1, v.2.1 + k, v.2.2)
def Jgt (vs : List AV) (nm : List UInt8) (k : Int) : List AV := setV (Jmd vs nm) nm (addV k)
theorem Jrh (x : Acc) : ∀ xs : List Acc, view (insA x xs) = insV (vw x) (view xs)
 | [] => rfl
 | y :: r => by
   have ih := Jrh x r;unfold insA;unfold view at *;simp only [List.map_cons, insV];by_cases hb : bytesBefore x.name y.name = true
   · rw [if_pos hb, if_pos (show bytesBefore (vw x).1 (vw y).1 = true from hb)]; rfl
   · rw [if_neg hb, if_neg (show ¬ bytesBefore (vw x).1 (vw y).1 = true from hb), <- ih]; rfl
theorem Jfq {xs : List Acc} {nm : List UInt8} {f : Acc -> Acc} {F : AV -> AV} (h : ∀ a ∈ xs, a.name = nm -> vw (f a) = F (vw a)) : view (setA xs nm f) = setV (view xs) nm F := by
 unfold view setA setV;rw [List.map_map, List.map_map];apply List.map_congr_left;intro a ha;simp only [Function.comp];by_cases e : a.name = nm
 · rw [if_pos e, if_pos (show (vw a).1 = nm from e), h a ha e]
 · rw [if_neg e, if_neg (show ¬ (vw a).1 = nm from e)]
theorem Jri (xs : List Acc) (nm : List UInt8) : (view xs).any (fun v => v.1 == nm) = (Ja4 xs nm).isSome := by
 unfold view Ja4;rw [List.any_map, Bool.eq_iff_iff, List.find?_isSome];simp [vw]
theorem Ja1.setLeft {n : Int} {us : List Int} {xs : List Acc} (h : Ja1 n us xs) (hp : xs.Pairwise (fun x y => x.name ≠ y.name)) {a : Acc} (ha : a ∈ xs) {v : Int} (hv : 0 <= v) (hr : sumL xs - a.left + v + us.length <= n) :
  Ja1 n us (setA xs a.name (Jd1 v)) := by
 have key : ∀ y ∈ setA xs a.name (Jd1 v), ∃ x ∈ xs, y.name = x.name /\ y.held = x.held /\ 0 <= y.left := by
  intro y hy;obtain ⟨x, hx, rfl⟩ := Jeb.1 hy;by_cases e : x.name = a.name
  · rw [if_pos e]; exact ⟨x, hx, rfl, rfl, hv⟩
  · rw [if_neg e]; exact ⟨x, hx, rfl, rfl, h.pos x hx⟩
 refine ⟨fun y hy => ?_, fun y hy => ?_, ?_, fun z => ?_, fun y hy y' hy' z hz hz' => ?_⟩
 · obtain ⟨x, hx, e, _⟩ := key y hy; rw [e]; exact h.name x hx
 · obtain ⟨x, hx, _, _, e⟩ := key y hy; exact e
 · rw [Jik hp ha rfl]; exact hr
 · rw [h.held z]
   constructor
   · rintro ⟨x, hx, hz⟩
     refine ⟨if x.name = a.name then Jd1 v x else x, Jeb.2 ⟨x, hx, rfl⟩, ?_⟩;split <;> exact hz
   · rintro ⟨y, hy, hz⟩
     obtain ⟨x, hx, _, e, _⟩ := key y hy;exact ⟨x, hx, by rw [<- e]; exact hz⟩
 · obtain ⟨x, hx, e1, e2, _⟩ := key y hy
   obtain ⟨x', hx', e1', e2', _⟩ := key y' hy';rw [e1, e1'];exact h.once x hx x' hx' z (by rw [<- e2]; exact hz) (by rw [<- e2']; exact hz')
theorem Ja1.made {n : Int} {us : List Int} {xs : List Acc} (h : Ja1 n us xs) {x : Acc} (hl : x.left = 0) (hh : x.held = []) (hn : 1 <= x.name.length /\ x.name.length <= 15) : Ja1 n us (insA x xs) := by
 refine ⟨fun y hy => ?_, fun y hy => ?_, ?_, fun z => ?_, fun y hy y' hy' z hz hz' => ?_⟩
 · rcases Jba.1 hy with rfl | hy
   · exact hn
   · exact h.name y hy
 · rcases Jba.1 hy with rfl | hy
   · omega
   · exact h.pos y hy
 · rw [Jrf, hl]; have := h.room; omega
 · rw [h.held z]
   constructor
   · rintro ⟨y, hy, hz⟩; exact ⟨y, Jba.2 (.inr hy), hz⟩
   · rintro ⟨y, hy, hz⟩
     rcases Jba.1 hy with rfl | hy
     · rw [hh] at hz; simp at hz
     · exact ⟨y, hy, hz⟩
 · rcases Jba.1 hy with rfl | hy
   · rw [hh] at hz; simp at hz
   · rcases Jba.1 hy' with rfl | hy'
     · rw [hh] at hz'; simp at hz'
     · exact h.once y hy y' hy' z hz hz'
theorem Jzw (s : ByteArray) : s.data.toList.length = s.size := by simp
theorem Jaf.find {w : World} {B g m mm : Nat} {f n : Int} {us : List Int} {xs : List Acc} (h : Jaf w B g m mm f n us xs) {x : Acc} (hx : x ∈ xs) : Ja4 xs x.name = some x := by
 cases hf : Ja4 xs x.name with
 | none => exact absurd rfl (Jhs hf x hx)
 | some y =>
   obtain ⟨hy, e⟩ := Jbk hf;rw [h.one hy hx e]
def Jzx (B g m mm : Nat) (f n : Int) (us : List Int) (xs : List Acc) (s : ByteArray) (w : World) (e : Ending) (w' : World) : Prop :=
 ∃ ys x, e = .returned (.pointer (some ⟨x.ab, 0, none⟩)) /\ x ∈ ys /\ x.name = s.data.toList /\ Jaf w' B g m mm f n us ys /\ (∀ vs, Ja1 n vs xs -> Ja1 n vs ys) /\ view ys = Jmd (view xs) s.data.toList /\ ys.length <= xs.length + 1 /\ w.grownBy w' (some mm) /\ Jau w.heap.size xs ys
theorem Jrj {B g m mm : Nat} {f n : Int} {us : List Int} {xs : List Acc} (s : ByteArray) (w : World) (h : Jaf w B g m mm f n us xs) (hs : 1 <= s.size /\ s.size <= 15) (hB : B <= w.heap.size) (hfew : xs.length < 1000000) :
  Calls Tryz.prog 217 #[.pointer (some ⟨g, 0, none⟩), .string s] w (Jzx B g m mm f n us xs s w) := by
 have c3 := h.c3;have hsm : s.size <= maxLen := by unfold maxLen; omega
 cases hf : Ja4 xs s.data.toList with
 | some a =>
   have hlk : (Instr.lookup 106 (.map (some mm)) (.string s) false).run Tryz.prog w = .ok (.pointer (some ⟨a.ab, 0, none⟩)) w := by rw [Jil h.own s hsm, hf]; rfl
   have HF := zI hf;clear hf;go_enter Tryz.func217, Tryz.ntmps217;go_wp2;go_ret;obtain ⟨ha, hn⟩ := Jbk HF.out;refine ⟨xs, a, rfl, ha, hn, h, fun _ h => h, ?_, by omega, World.grownBy.refl _ _, Jau.refl _ _⟩;unfold Jmd;rw [Jri, HF.out]; rfl
 | none =>
   have hlk : (Instr.lookup 106 (.map (some mm)) (.string s) false).run Tryz.prog w = .ok (.pointer none) w := by rw [Jil h.own s hsm, hf]; rfl
   have hmm := @run_makeMap Tryz.prog;have HF := zI hf;clear hf;obtain ⟨x, hx⟩ : ∃ x : Acc, x = ⟨s.data.toList, 0, [], w.heap.size + 1, w.heap.size⟩ := ⟨_, rfl⟩;have HX := zI hx;have HN := zI (show s.data.toList = x.name from by rw [hx]);have HA := zI (show w.heap.size + 1 = x.ab from by rw [hx]);clear hx;have hkey := WideMaps.keyOf_string_mk (P := Tryz.prog) Tryz.underlying9 hsm;have hlt := h.pool.lt;go_enter Tryz.func217, Tryz.ntmps217
   go_wp2_with (first
    | (at_mapUpdate; refine wpList_mapUpdate_own _ rfl _ _ _ 106 rfl 9 183 Jht Tryz.underlying106 Jbo mm _ (accD xs) rfl ((h.own.alloc (.map #[] 0)).alloc (.cells #[.int .i64 0, .map (some w.heap.size)] 186)) (by unfold maxLen; omega) _ _ _ rfl rfl hkey _ [] (Jtg (w.heap.size + 1)) ?_; intro w1 hown1 hgrow1
       rw [HN.out, HA.out, Jzq xs x (by rw [<- HN.out]; exact Jhs HF.out)] at hown1;have hM := h.made hB (x := x) (by rw [HX.out]; exact ⟨rfl, rfl, rfl, rfl⟩) hown1 hgrow1;have d3 := hM.c3
       have hlk3 : (Instr.lookup 106 (.map (some mm)) (.string s) false).run Tryz.prog w1 = .ok (.pointer (some ⟨w.heap.size + 1, 0, none⟩)) w1 := by
        rw [Jil hown1 s hsm, HN.out, hM.find (Jba.2 (.inl rfl)), HA.out]; rfl))
   go_ret;refine ⟨insA x xs, x, by rw [<- HA.out]; rfl, Jba.2 (.inl rfl), HN.out.symm, hM, fun vs hv => hv.made (by rw [HX.out]) (by rw [HX.out]) (by rw [<- HN.out, Jzw]; exact hs), ?_, by rw [Jre]; exact Nat.le_refl _, ?_, Jau.ins _ (by rw [HX.out]; exact Nat.le_succ _) (by rw [HX.out]; exact Nat.le_refl _)⟩
   · unfold Jmd
     rw [Jri, HF.out, Jrh, HX.out]; rfl
   · exact Jap (Jaa (((Below.refl _ _).alloc (Nat.le_refl _) _).alloc (by simp) _) _) hgrow1
def Jf7 (n : Int) (us : List Int) (xs : List Acc) (s : ByteArray) (k : Int) : Int := if k < 0 \/ ¬ (1 <= s.size /\ s.size <= 15) then 1 else if Jkr n us xs < k then 20 else 0
def Jc8 (B g m mm : Nat) (f n : Int) (us : List Int) (xs : List Acc) (s : ByteArray) (k : Int) (w : World) (e : Ending) (w' : World) : Prop :=
 ∃ ys, e = .returned (.int .i64 (Jf7 n us xs s k)) /\ Jad w' B g m mm f n us ys /\ view ys = (if Jf7 n us xs s k = 0 then Jgt (view xs) s.data.toList k else view xs) /\ ys.length <= xs.length + 1 /\ Chg (LedF m mm xs) w w' /\ Jau w.heap.size xs ys
theorem Jc1 (xs : List Acc) (nm : List UInt8) (F : Acc -> Acc) : (setA xs nm F).length = xs.length := by unfold setA; simp
theorem sumV (xs : List Acc) : sumL xs = ((view xs).map fun v => v.2.1).sum := by
 unfold sumL view; rw [List.map_map]; rfl
theorem Jrk (x : AV) : ∀ vs : List AV, ((insV x vs).map fun v => v.2.1).sum = x.2.1 + (vs.map fun v => v.2.1).sum
 | [] => by simp [insV]
 | y :: r => by
   have := Jrk x r;unfold insV;split <;> (simp only [List.map_cons, List.sum_cons]; try omega)
theorem Jny (vs : List AV) (nm : List UInt8) : ((Jmd vs nm).map fun v => v.2.1).sum = (vs.map fun v => v.2.1).sum := by
 unfold Jmd;split
 · rfl
 · rw [Jrk]; simp
theorem Jp1 {B g m mm : Nat} {f n : Int} {us : List Int} {xs : List Acc} (s : ByteArray) (k : Int) (w : World) (h : Jad w B g m mm f n us xs) (hs : s.size <= maxLen) (hk : -9223372036854775808 <= k /\ k <= 9223372036854775807) (hB : B <= w.heap.size) (hfew : xs.length < 1000000) :
  Calls Tryz.prog 145 #[.pointer (some ⟨g, 0, none⟩), .string s, .int .i64 k] w (Jc8 B g m mm f n us xs s k w) := by
 obtain ⟨hk1, hk2⟩ := hk;by_cases h1 : k < 0
 · have HE := zI (show Jf7 n us xs s k = 1 from if_pos (.inl h1))
   go_enter Tryz.func145, Tryz.ntmps145;go_wp2;go_ret;unfold Jc8;rw [HE.out];exact ⟨xs, rfl, h, rfl, by omega, Chg.refl _ _, Jau.refl _ _⟩
 by_cases h2 : 1 <= s.size /\ s.size <= 15
 rotate_left
 · have HE := zI (show Jf7 n us xs s k = 1 from if_pos (.inr h2))
   have HD := zI (decide_eq_false h2);clear h2;go_enter Tryz.func145, Tryz.ntmps145;go_wp2_with (go_at_call 216; refine (Jd3 s _ hs).mono ?_; rw [HD.out]; rintro e w1 ⟨rfl, rfl⟩)
   go_ret;unfold Jc8;rw [HE.out];exact ⟨xs, rfl, h, rfl, by omega, Chg.refl _ _, Jau.refl _ _⟩
 have HD := zI (decide_eq_true h2);have H2 := zI h2;clear h2;obtain ⟨b1, b2, b3, b4⟩ := h.few;obtain ⟨o, ho⟩ : ∃ o, o = Jkr n us xs := ⟨_, rfl⟩;have HO := zI ho;have hob : 0 <= o /\ o <= 4096 := by rw [ho]; unfold Jkr; omega
 obtain ⟨ho1, ho2⟩ := hob;clear ho;by_cases h3 : o < k
 · have HE := zI (show Jf7 n us xs s k = 20 from by unfold Jf7; rw [if_neg (fun hh => hh.elim h1 (fun hh => hh H2.out)), if_pos (by rw [<- HO.out]; exact h3)])
   go_enter Tryz.func145, Tryz.ntmps145
   go_wp2_with (first
    | (go_at_call 216; refine (Jd3 s _ hs).mono ?_; rw [HD.out]; rintro e w1 ⟨rfl, rfl⟩)
    | (go_at_call 161; refine (Jgs _ h).mono ?_; rintro e w1 ⟨rfl, rfl⟩)
    | (go_at_call 144; refine (Jmc _ h).mono ?_; rw [<- HO.out]; rintro e w1 ⟨rfl, hb1⟩))
   go_ret;unfold Jc8;rw [HE.out];exact ⟨xs, rfl, h.bel hb1, rfl, by omega, Chg.of_below hb1, Jau.refl _ _⟩
 · have HE := zI (show Jf7 n us xs s k = 0 from by unfold Jf7; rw [if_neg (fun hh => hh.elim h1 (fun hh => hh H2.out)), if_neg (by rw [<- HO.out]; exact h3)])
   go_enter Tryz.func145, Tryz.ntmps145
   go_wp2_with (first
    | (go_at_call 216; refine (Jd3 s _ hs).mono ?_; rw [HD.out]; rintro e w1 ⟨rfl, rfl⟩)
    | (go_at_call 161; refine (Jgs _ h).mono ?_; rintro e w1 ⟨rfl, rfl⟩)
    | (go_at_call 144; refine (Jmc _ h).mono ?_; rw [<- HO.out]; rintro e w1 ⟨rfl, hb1⟩
       have hB1 : B <= w1.heap.size := Nat.le_trans hB hb1.size)
    | (go_at_call 217; refine (Jrj s _ (h.bel hb1).mem H2.out hB1 hfew).mono ?_; rintro e w2 ⟨ys, x, rfl, hx, hn, h2m, h2l, hv, hl, hg2, hff2⟩
       have h2 : Jad w2 B g m mm f n us ys := ⟨h2m, h2l _ h.law⟩;have HN := zI hn;have HV := zI hv;clear hn hv;obtain ⟨d0, d1, d2⟩ := (h2.acc x hx).cells;obtain ⟨q1, q2⟩ := h2.left_bd hx))
   go_ret;unfold Jc8;rw [HE.out];have hv := HV.out;have hsum : sumL ys = sumL xs := by rw [sumV, sumV, hv, Jny]
   have ho := HO.out;unfold Jkr at ho;refine ⟨setA ys x.name (Jd1 (x.left + k)), rfl, ⟨h2.mem.left hx _, h2.law.setLeft h2.apart hx (by omega) (by rw [hsum]; omega)⟩, ?_, by rw [Jc1]; exact hl, ?_, (hff2.low hb1.size).set _ _ (fun _ => ⟨rfl, rfl⟩)⟩
   · rw [if_pos rfl]
     unfold Jgt;rw [<- hv, <- HN.out];exact Jfq (fun a ha e => by rw [h2.mem.one ha hx e]; rfl)
   · exact Jvi (Jc0 (Chg.of_below hb1) hg2 (fun j hj => by cases hj; exact .inl (LedF.map _ _ _))) _ ((hff2.low hb1.size).inF (LedF.acc hx))
end Go.Proofs.YtalkkhafcfhglaaGreatDoor.Led
