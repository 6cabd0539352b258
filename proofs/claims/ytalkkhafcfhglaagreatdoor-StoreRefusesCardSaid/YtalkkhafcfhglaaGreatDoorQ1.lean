/-
  Several texts in one: Base, Mem, Plain5, Agg.
-/
import Derived.Test.YtalkkhafcfhglaaGreatDoorProg
import GoSem.PinnedTables
import GoSem.Claim
import GoSem.ClaimJoined
import GoSem.ClaimMapViews
import Derived.JoinedTies
import Derived.KernelRfl
import Derived.WalkKit
import Derived.ProofKit
import Derived.SliceStrings
import Derived.Laws.Externs
import Derived.WalkSpells
import Derived.WalkLawsBesides
import Derived.Lib.Hide
import Derived.Outline
import Derived.Deep.QuietTactic
import Derived.BigQuiet
import Derived.IntWalk
import Derived.StillTailTactics
import Derived.Laws.ResultCell
import Derived.Deep.RegionHeld3
set_option maxRecDepth 100000
set_option maxHeartbeats 4000000
namespace Go.Proofs.YtalkkhafcfhglaaGreatDoor
open Go.ChangeShapes Go.WideShapes Go.RowKit
theorem zI {p : Prop} (h : p) : Go.RowKit.Hid p := Go.Lib.hid h
structure Sl (w : World) (A : Option Addr) (xs : List Value) : Prop where
 at_ : xs ≠ [] -> ∃ b off, A = some ⟨b, off, none⟩ /\ b < w.heap.size /\ ∀ j u, xs[j]? = some u -> w.cell? ⟨b, off + j, none⟩ = some u
theorem Sl.nil (w : World) (A : Option Addr) : Sl w A [] := ⟨fun h => absurd rfl h⟩
theorem Sl.get {w : World} {A : Option Addr} {xs : List Value} (h : Sl w A xs) {j : Nat} (hj : j < xs.length) : ∃ b off, A = some ⟨b, off, none⟩ /\ b < w.heap.size /\ w.cell? ⟨b, off + j, none⟩ = some xs[j] := by
 obtain ⟨b, off, e, hb, hc⟩ := h.at_ (fun e => by subst e; simp at hj);exact ⟨b, off, e, hb, hc j _ (List.getElem?_eq_getElem hj)⟩
theorem Sl.below {w w' : World} {A : Option Addr} {xs : List Value} (h : Sl w A xs) (hb : Below w.heap.size w w') : Sl w' A xs :=
 ⟨fun hne => by
  obtain ⟨b, off, e, hlt, hc⟩ := h.at_ hne;exact ⟨b, off, e, Nat.lt_of_lt_of_le hlt hb.size, fun j u hu => (hb.cell (p := ⟨b, off + j, none⟩) hlt).trans (hc j u hu)⟩⟩
theorem Sl.alloc {w : World} {A : Option Addr} {xs : List Value} (h : Sl w A xs) (o : Obj) : Sl (w.alloc o) A xs := h.below ((Below.refl _ _).alloc (Nat.le_refl _) o)
theorem Sl.drew {w : World} {A : Option Addr} {xs : List Value} (h : Sl w A xs) : Sl w.drew A xs := h.below ((Below.refl _ _).drew)
theorem Sl.new (w : World) (T : TypeId) (g : Nat) (xs : List Value) (cs : Array Value) (hg : g = w.heap.size) (hc : cs.toList = xs) : Sl (w.alloc (.cells cs T)) (some ⟨g, 0, none⟩) xs := by
 subst hg hc;refine ⟨fun _ => ⟨_, _, rfl, by simp, fun j u hu => ?_⟩⟩;have := cell_of_row (w.alloc (.cells cs T)) w.heap.size j cs T (0, 0) (heap_alloc_new w _);rw [Nat.zero_add, this]; simpa using hu
structure Strs (w : World) (A : Option Addr) (n : Nat) (ss : List ByteArray) : Prop where
 sl : Sl w A (ss.map Value.string)
 len : ss.length = n
 n_le : n <= maxLen
 size : ∀ s ∈ ss, s.size <= maxLen
theorem Strs.get {w : World} {A : Option Addr} {n : Nat} {ss : List ByteArray} (h : Strs w A n ss) {j : Nat} (hj : j < ss.length) : ∃ b off, A = some ⟨b, off, none⟩ /\ b < w.heap.size /\ w.cell? ⟨b, off + j, none⟩ = some (.string ss[j]) := by
 obtain ⟨b, off, e, hb, hc⟩ := h.sl.get (j := j) (by simpa using hj);exact ⟨b, off, e, hb, by simpa using hc⟩
theorem Strs.below {w w' : World} {A : Option Addr} {n : Nat} {ss : List ByteArray} (h : Strs w A n ss) (hb : Below w.heap.size w w') : Strs w' A n ss := ⟨h.sl.below hb, h.len, h.n_le, h.size⟩
structure Ints (w : World) (k : IntKind) (A : Option Addr) (n : Nat) (zs : List Int) : Prop where
 sl : Sl w A (zs.map (Value.int k))
 len : zs.length = n
 n_le : n <= maxLen
 wf : ∀ z ∈ zs, (Lit.int k z).wf = true
theorem Ints.get {w : World} {k : IntKind} {A : Option Addr} {n : Nat} {zs : List Int} (h : Ints w k A n zs) {j : Nat} (hj : j < zs.length) : ∃ b off, A = some ⟨b, off, none⟩ /\ b < w.heap.size /\ w.cell? ⟨b, off + j, none⟩ = some (.int k zs[j]) := by
 obtain ⟨b, off, e, hb, hc⟩ := h.sl.get (j := j) (by simpa using hj);exact ⟨b, off, e, hb, by simpa using hc⟩
theorem Ints.below {w w' : World} {k : IntKind} {A : Option Addr} {n : Nat} {zs : List Int} (h : Ints w k A n zs) (hb : Below w.heap.size w w') : Ints w' k A n zs := ⟨h.sl.below hb, h.len, h.n_le, h.wf⟩
theorem Jux {w : World} {a : Addr} {xs : List Value} (h : ∀ i u, xs[i]? = some u -> w.cell? (a.add i) = some u) : Sl w (some a) xs := by
 refine ⟨fun hne => ?_⟩;obtain ⟨b, off, sp⟩ := a;have h0 := h 0 (xs[0]'(List.length_pos_iff.2 hne)) (by rw [List.getElem?_eq_getElem (List.length_pos_iff.2 hne)]);have hs : sp = none := by simpa [Addr.add] using World.cell?_spot h0
 subst hs;refine ⟨b, off, rfl, ?_, fun j u hu => ?_⟩
 · have := block_lt_of_cell h0; simpa [Addr.add] using this
 · have := h j u hu
   unfold Addr.add at this;split at this
   · next e => subst e; simpa using this
   · exact this
section
variable {H : Type} {enc : TypeId × Value -> H} {P : Program} {w : World} {base : Nat} {spare : Nat -> Bool} {held : Bool}
theorem Jnf {t e : TypeId} {A : Option Addr} {n c : Nat} {d : DataW H} {p : List MemPlace} (ht : P.underlying t = some (.slice e)) (he : P.underlying e = some .string) (hc : P.cellsOf e = 1)
  (h : DataW.Trod enc P w base spare held t (.slice A n c) d p) : ∃ ss, Strs w A n ss := by
 obtain ⟨fuel, hf⟩ := h;rcases open_strings ht he hc hf with ⟨hcs, _⟩ | ⟨a, l, cap, ss, hcs, _, hl, hm, hz, _, hcell, hsz⟩
 · simp [Value.cells] at hcs
   obtain ⟨rfl, rfl, rfl⟩ := hcs;exact ⟨[], Sl.nil _ _, rfl, by decide, by simp⟩
 · simp [Value.cells] at hcs
   obtain ⟨rfl, rfl, rfl⟩ := hcs;have hle : n <= ss.length := by rw [hz]; split <;> omega
   refine ⟨ss.take n, Jux (fun i u hu => ?_), by simp; omega, by omega, fun s hs => hsz s (List.mem_of_mem_take hs)⟩
   have hi : i < n /\ i < ss.length := by
    have := (List.getElem?_eq_some_iff.1 hu).1; simp at this; omega
   rw [hcell i hi.2, <- hu];simp [hi.1, hi.2]
end
end Go.Proofs.YtalkkhafcfhglaaGreatDoor
namespace Go.Proofs.YtalkkhafcfhglaaGreatDoor
open Go.RowKit
def Jkd (x : Int) (c : UInt8) : Int := bits BinOp.xor IntKind.u32 x ((c.toNat : Int) % 4294967296) * 16777619 % 4294967296
def Jfj : Int -> List UInt8 -> Int
 | x, [] => x
 | x, c :: l => Jfj (Jkd x c) l
def hash (l : List UInt8) : Int := Jfj 2166136261 l
theorem Jlt (l : List UInt8) (x : Int) (c : UInt8) : Jfj x (l ++ [c]) = Jkd (Jfj x l) c := by
 induction l generalizing x with
 | nil => rfl
 | cons a l ih => exact ih _
theorem Juy (l : List UInt8) (c : UInt8) : hash (l ++ [c]) = Jkd (hash l) c := Jlt _ _ _
theorem Jy6 (x : Int) (c : UInt8) : 0 <= Jkd x c /\ Jkd x c < 4294967296 := by unfold Jkd; omega
theorem Jps (l : List UInt8) (x : Int) (h : 0 <= x /\ x < 4294967296) : 0 <= Jfj x l /\ Jfj x l < 4294967296 := by
 induction l generalizing x with
 | nil => exact h
 | cons a l ih => exact ih _ (Jy6 x a)
theorem Jpt (l : List UInt8) : 0 <= hash l /\ hash l < 4294967296 := Jps l _ (by decide)
theorem Jag {a b : Bool} (h : a = b) : Ending.returned (.bool a) = .returned (.bool b) := by rw [h]
theorem Jbl {k : IntKind} {a b : Int} (h : a = b) : Ending.returned (.int k a) = .returned (.int k b) := by rw [h]
theorem Jab (s : ByteArray) : s.toList.length = s.size := by rw [ByteArray.toList_eq]; simp
theorem Jb2 (s : ByteArray) (k : Nat) (h : k < s.size) : s.toList.take (k + 1) = s.toList.take k ++ [s[k]] := by
 rw [ByteArray.toList_eq, List.take_succ_eq_append_getElem (by simpa using h)]; rfl
theorem Jfk (s : ByteArray) (k : Nat) (h : k < s.size) : s.toList[k]? = some s[k] := by
 rw [ByteArray.toList_eq, List.getElem?_eq_getElem (by simpa using h)]; rfl
def Jc6 (c : Int) : Bool := decide ((97 <= c /\ c <= 122) \/ (48 <= c /\ c <= 57) \/ c = 46 \/ c = 95 \/ c = 45)
theorem Jkl {c : Int} (h : (97 <= c /\ c <= 122) \/ (48 <= c /\ c <= 57) \/ c = 46 \/ c = 95 \/ c = 45) : Jc6 c = true := decide_eq_true h
theorem Jng {c : Int} (h : ¬((97 <= c /\ c <= 122) \/ (48 <= c /\ c <= 57) \/ c = 46 \/ c = 95 \/ c = 45)) : Jc6 c = false := decide_eq_false h
def Ja9 (l : List UInt8) : Bool := l.all fun c => Jc6 c.toNat
def Jak (l : List UInt8) : Bool := decide (1 <= l.length /\ l.length <= 15) && Ja9 l
theorem Jlu (l : List UInt8) (c : UInt8) : Ja9 (l ++ [c]) = (Ja9 l && Jc6 c.toNat) := by simp [Ja9]
theorem Jh5 (s : ByteArray) (k : Nat) (h : k < s.size) : Ja9 (s.toList.take (k + 1)) = (Ja9 (s.toList.take k) && Jc6 s[k].toNat) := by rw [Jb2 s k h, Jlu]
theorem Jir (s : ByteArray) (k : Nat) (h : k < s.size) (hb : Jc6 s[k].toNat = false) : Ja9 s.toList = false := by
 have h1 : s[k] ∈ s.toList := List.mem_of_getElem? (Jfk s k h);cases hh : Ja9 s.toList
 · rfl
 · unfold Ja9 at hh; rw [List.all_eq_true] at hh; have := hh _ h1; rw [hb] at this; cases this
theorem Jd9 (s : ByteArray) (h : s.size < 1 \/ 15 < s.size) : Jak s.toList = false := by
 unfold Jak; rw [Jab, decide_eq_false (by omega)]; rfl
theorem Jnh (s : ByteArray) (h : Ja9 s.toList = false) : Jak s.toList = false := by unfold Jak; rw [h, Bool.and_false]
theorem Jq1 (s : ByteArray) (h1 : 1 <= s.size) (h2 : s.size <= 15) (h : Ja9 s.toList = true) : Jak s.toList = true := by
 unfold Jak; rw [h, Jab, decide_eq_true (by omega)]; rfl
theorem Jq2 {α : Type} (f : α -> Bool) (l : List α) (k : Nat) (x : α) (ht : l.take (k + 1) = l.take k ++ [x]) (h : (l.take k).all f = true) (hx : f x = true) : (l.take (k + 1)).all f = true := by rw [ht]; simp [h, hx]
theorem Jho {α : Type} (f : α -> Bool) (l : List α) (x : α) (hm : x ∈ l) (hx : f x = false) : l.all f = false := by
 cases hh : l.all f
 · rfl
 · rw [List.all_eq_true] at hh; have := hh _ hm; rw [hx] at this; cases this
def Jco (l : List UInt8) (n : Int) : Int := if n < 1 then 0 else hash l % n
def cmpS (a b : List UInt8) : Int := if Op.bytesLess a b = true then -1 else if (!a == b) = true then 1 else 0
def cmpI (a b : Int) : Int := if a < b then -1 else if b < a then 1 else 0
def cmpR (a : List UInt8) (x : Int) (b : List UInt8) (y : Int) : Int := if cmpS a b = 0 then cmpI x y else cmpS a b
structure Ag where
 c : Int
 hi : Int
 lo : Int
 mn : Int
 mx : Int
deriving DecidableEq
def Ag.cells (a : Ag) : List Value := [.int .i64 a.c, .int .i64 a.hi, .int .u64 a.lo, .int .i64 a.mn, .int .i64 a.mx]
abbrev Ag.val (a : Ag) : Value := .agg #[.int .i64 a.c, .int .i64 a.hi, .int .u64 a.lo, .int .i64 a.mn, .int .i64 a.mx]
def Ag.zero : Ag := ⟨0, 0, 0, 0, 0⟩
structure Ag.Ok (a : Ag) : Prop where
 c : -9223372036854775808 <= a.c /\ a.c <= 9223372036854775807
 hi : -9223372036854775808 <= a.hi /\ a.hi <= 9223372036854775807
 lo : 0 <= a.lo /\ a.lo <= 18446744073709551615
 mn : -9223372036854775808 <= a.mn /\ a.mn <= 9223372036854775807
 mx : -9223372036854775808 <= a.mx /\ a.mx <= 9223372036854775807
def Jb3 (a : Ag) : Bool := decide (1 <= a.c /\ a.c <= 4611686018427387904 /\ a.mn <= a.mx)
theorem Juz (x y c : Int) (hx : 0 <= x) (hy : 0 <= y) (hc0 : 0 <= c) (hc : c <= 1) (w : World) : (callFunc 227 #[.int .u64 x, .int .u64 y, .int .u64 c]).run Tryz.prog w =
  .ok (.value (.tuple #[.int .u64 ((x + y + c) % 18446744073709551616), .int .u64 ((x + y + c) / 18446744073709551616)])) w := by
 rw [run_callFunc_extern Tryz.func227 (by kernel_rfl) (by kernel_rfl) (by kernel_rfl) (e := add64Entry) (by kernel_rfl), run_add64 x y c hx hy hc0 hc];rfl
theorem Jbj (a : Ag) (w : World) : Calls Tryz.prog 226 #[a.val] w fun e w' => e = .returned (.bool (Jb3 a)) /\ w' = w.alloc (.cells #[.int .i64 a.c, .int .i64 a.hi, .int .u64 a.lo, .int .i64 a.mn, .int .i64 a.mx] 167) := by
 by_cases h1 : 1 <= a.c
 · by_cases h2 : a.c <= 4611686018427387904
   · have HF := zI (show Jb3 a = decide (a.mn <= a.mx) from by unfold Jb3; simp [h1, h2])
     go_enter Tryz.func226, Tryz.ntmps226;go_wp2;go_ret;exact ⟨Jag HF.out.symm, rfl⟩
   · have HF := zI (show Jb3 a = false from by unfold Jb3; simp [h2])
     have hd : decide (a.c <= 4611686018427387904) = false := decide_eq_false h2;go_enter Tryz.func226, Tryz.ntmps226;go_wp2;go_ret;exact ⟨Jag HF.out.symm, rfl⟩
 · have HF := zI (show Jb3 a = false from by unfold Jb3; simp [h1])
   have hd : decide (1 <= a.c) = false := decide_eq_false h1;go_enter Tryz.func226, Tryz.ntmps226;go_wp2;go_ret;exact ⟨Jag HF.out.symm, rfl⟩
theorem J5l (z : Int) : IntKind.u64.wrap z = z % 18446744073709551616 := by simp [IntKind.wrap, IntKind.bits, IntKind.signed]
theorem Jlv (z : Int) : 0 <= IntKind.u64.wrap z /\ IntKind.u64.wrap z < 18446744073709551616 := by rw [J5l]; omega
def Jea (a b : Ag) : Ag := if a.c = 0 then b else
 ⟨if a.c < 4611686018427387904 - b.c then a.c + b.c else 4611686018427387904, IntKind.i64.wrap ((IntKind.u64.wrap a.hi + IntKind.u64.wrap b.hi + (a.lo + b.lo) / 18446744073709551616) % 18446744073709551616), (a.lo + b.lo) % 18446744073709551616, min a.mn b.mn, max a.mx b.mx⟩
theorem Jq3 (a b : Ag) (w : World) (ha : a.Ok) (hb : b.Ok) (hac : 0 <= a.c /\ a.c <= 4611686018427387904) (hbc : 0 <= b.c /\ b.c <= 4611686018427387904) : Calls Tryz.prog 167 #[a.val, b.val] w fun e w' => e = .returned (Jea a b).val /\ Below w.heap.size w w' := by
 by_cases h0 : a.c = 0
 · have HF := zI (show Jea a b = b from if_pos h0)
   obtain ⟨c, hi, lo, mn, mx⟩ := a;simp only at h0;subst h0;go_enter Tryz.func167, Tryz.ntmps167;go_wp2;refine bodyPost_ret (v := b.val) (by simp [results, Tryz.results167, go_sem]) rfl ⟨by rw [HF.out], ?_⟩
   repeat (first | exact Below.refl _ _ | refine Below.setCell ?_ (by simp) _ | refine Below.alloc ?_ (by simp; try omega) _)
 · have k1 := fun W => Juz a.lo b.lo 0 ha.lo.1 hb.lo.1 (by omega) (by omega) W
   have hc := ha.lo;have hc' := hb.lo;have k2 := fun W => Juz (IntKind.u64.wrap a.hi) (IntKind.u64.wrap b.hi) ((a.lo + b.lo) / 18446744073709551616) (Jlv _).1 (Jlv _).1 (by omega) (by omega) W;have h0' : (a.c == 0) = false := beq_eq_false_iff_ne.2 h0;obtain ⟨a1, a2⟩ := hac;obtain ⟨b1, b2⟩ := hbc;by_cases h1 : a.c < 4611686018427387904 - b.c
   · have HF := zI (show Jea a b = ⟨a.c + b.c, IntKind.i64.wrap ((IntKind.u64.wrap a.hi + IntKind.u64.wrap b.hi + (a.lo + b.lo) / 18446744073709551616) % 18446744073709551616), (a.lo + b.lo) % 18446744073709551616, min a.mn b.mn, max a.mx b.mx⟩ from by unfold Jea; rw [if_neg h0, if_pos h1])
     have HV : (Jea a b).val = .agg #[.int .i64 (a.c + b.c), .int .i64 (IntKind.i64.wrap ((IntKind.u64.wrap a.hi + IntKind.u64.wrap b.hi + (a.lo + b.lo) / 18446744073709551616) % 18446744073709551616)), .int .u64 ((a.lo + b.lo) % 18446744073709551616), .int .i64 (min a.mn b.mn), .int .i64 (max a.mx b.mx)] := by unfold Ag.val; rw [HF.out]
     have HW := zI HV;clear HV h0 hc hc';go_enter Tryz.func167, Tryz.ntmps167;go_wp2
     all_goals
      rw [HW.out];refine bodyPost_ret (v := .agg #[.int .i64 (a.c + b.c), .int .i64 (IntKind.i64.wrap ((IntKind.u64.wrap a.hi + IntKind.u64.wrap b.hi + (a.lo + b.lo) / 18446744073709551616) % 18446744073709551616)), .int .u64 ((a.lo + b.lo) % 18446744073709551616), .int .i64 (min a.mn b.mn), .int .i64 (max a.mx b.mx)]) ?_ rfl ⟨rfl, ?_⟩
      · simp [results, Tryz.results167, go_sem]
        exact ⟨by first | rfl | (rw [IntKind.wrap_i64]; rfl) | (unfold wrap64; rw [IntKind.wrap_i64]), by omega, by omega⟩
      · repeat (first | exact Below.refl _ _ | refine Below.setCell ?_ (by simp) _ | refine Below.alloc ?_ (by simp; try omega) _)
   · have HF := zI (show Jea a b = ⟨4611686018427387904, IntKind.i64.wrap ((IntKind.u64.wrap a.hi + IntKind.u64.wrap b.hi + (a.lo + b.lo) / 18446744073709551616) % 18446744073709551616), (a.lo + b.lo) % 18446744073709551616, min a.mn b.mn, max a.mx b.mx⟩ from by unfold Jea; rw [if_neg h0, if_neg h1])
     have HV : (Jea a b).val = .agg #[.int .i64 (4611686018427387904), .int .i64 (IntKind.i64.wrap ((IntKind.u64.wrap a.hi + IntKind.u64.wrap b.hi + (a.lo + b.lo) / 18446744073709551616) % 18446744073709551616)), .int .u64 ((a.lo + b.lo) % 18446744073709551616), .int .i64 (min a.mn b.mn), .int .i64 (max a.mx b.mx)] := by unfold Ag.val; rw [HF.out]
     have HW := zI HV;clear HV h0 hc hc';have hd1 : decide (a.c < 4611686018427387904 - b.c) = false := decide_eq_false h1;go_enter Tryz.func167, Tryz.ntmps167;go_wp2
     all_goals
      rw [HW.out];refine bodyPost_ret (v := .agg #[.int .i64 (4611686018427387904), .int .i64 (IntKind.i64.wrap ((IntKind.u64.wrap a.hi + IntKind.u64.wrap b.hi + (a.lo + b.lo) / 18446744073709551616) % 18446744073709551616)), .int .u64 ((a.lo + b.lo) % 18446744073709551616), .int .i64 (min a.mn b.mn), .int .i64 (max a.mx b.mx)]) ?_ rfl ⟨rfl, ?_⟩
      · simp [results, Tryz.results167, go_sem]
        exact ⟨by first | rfl | (rw [IntKind.wrap_i64]; rfl) | (unfold wrap64; rw [IntKind.wrap_i64]), by omega, by omega⟩
      · repeat (first | exact Below.refl _ _ | refine Below.setCell ?_ (by simp) _ | refine Below.alloc ?_ (by simp; try omega) _)
structure Ag.Fit (a : Ag) : Prop where
 ok : a.Ok
 cnt : 0 <= a.c /\ a.c <= 4611686018427387904
theorem Ag.Fit.zero : Ag.zero.Fit := ⟨⟨by decide, by decide, by decide, by decide, by decide⟩, by decide⟩
theorem Ag.Fit.both {a b : Ag} (ha : a.Fit) (hb : b.Fit) : (Jea a b).Fit := by
 unfold Jea;by_cases h0 : a.c = 0
 · rw [if_pos h0]; exact hb
 · rw [if_neg h0]
   have h1 := ha.cnt;have h2 := hb.cnt;have h3 := ha.ok.mn;have h4 := hb.ok.mn;have h5 := ha.ok.mx;have h6 := hb.ok.mx;have hw := IntKind.wrap_i64 ((IntKind.u64.wrap a.hi + IntKind.u64.wrap b.hi + (a.lo + b.lo) / 18446744073709551616) % 18446744073709551616);refine ⟨⟨?_, ?_, ?_, ?_, ?_⟩, ?_⟩
   · simp only; split <;> omega
   · simp only; rw [hw]; omega
   · simp only; omega
   · simp only; omega
   · simp only; omega
   · simp only; split <;> omega
def Jbb (s a : Ag) : Ag := if Jb3 a = true then Jea s a else s
def Jbh (l : List Ag) : Ag := l.foldl Jbb Ag.zero
theorem Jis (l : List Ag) (a : Ag) : Jbh (l ++ [a]) = Jbb (Jbh l) a := by simp [Jbh, List.foldl_append]
theorem Jkm {a : Ag} (h : Jb3 a = true) : 1 <= a.c /\ a.c <= 4611686018427387904 /\ a.mn <= a.mx := of_decide_eq_true h
theorem Ag.Fit.step {s a : Ag} (hs : s.Fit) (ha : a.Ok) : (Jbb s a).Fit := by
 unfold Jbb;split
 · next h => exact hs.both ⟨ha, by have := Jkm h; omega⟩
 · exact hs
theorem Ag.Fit.merge : ∀ {l : List Ag}, (∀ a ∈ l, a.Ok) -> (Jbh l).Fit := by
 intro l;obtain ⟨m, rfl⟩ : ∃ m : List Ag, l = m.reverse := ⟨l.reverse, by simp⟩
 induction m with
 | nil => intro _; exact Ag.Fit.zero
 | cons a r ih =>
   intro h;rw [List.reverse_cons, Jis];exact (ih (fun x hx => h x (by simp at hx ⊢; exact .inl hx))).step (h a (by simp))
structure Ags (w : World) (A : Option Addr) (n : Nat) (l : List Ag) : Prop where
 sl : Sl w A (l.flatMap Ag.cells)
 len : l.length = n
 n_le : n <= maxLen
 ok : ∀ a ∈ l, a.Ok
theorem flat_get (l : List Ag) (j : Nat) (hj : j < l.length) (q : Nat) (hq : q < 5) : (l.flatMap Ag.cells)[j * 5 + q]? = l[j].cells[q]? := by
 induction l generalizing j with
 | nil => simp at hj
 | cons a r ih =>
   rw [List.flatMap_cons];cases j with
   | zero =>
     rw [List.getElem?_append_left (by show 0 * 5 + q < 5; omega)]; simp
   | succ j =>
     rw [List.getElem?_append_right (by show 5 <= _; omega)];have : (j + 1) * 5 + q - a.cells.length = j * 5 + q := by show (j + 1) * 5 + q - 5 = _; omega
     rw [this, ih j (by simp at hj; omega)]; rfl
theorem Ags.get {w : World} {A : Option Addr} {n : Nat} {l : List Ag} (h : Ags w A n l) {j : Nat} (hj : j < l.length) : ∃ b off, A = some ⟨b, off, none⟩ /\ b < w.heap.size /\
  w.cell? ⟨b, off + j * 5, none⟩ = some (.int .i64 l[j].c) /\ w.cell? ⟨b, off + j * 5 + 1, none⟩ = some (.int .i64 l[j].hi) /\ w.cell? ⟨b, off + j * 5 + 2, none⟩ = some (.int .u64 l[j].lo) /\
  w.cell? ⟨b, off + j * 5 + 3, none⟩ = some (.int .i64 l[j].mn) /\ w.cell? ⟨b, off + j * 5 + 4, none⟩ = some (.int .i64 l[j].mx) := by
 have hne : l.flatMap Ag.cells ≠ [] := by
  cases l with
  | nil => simp at hj
  | cons a r => simp [Ag.cells]
 obtain ⟨b, off, e, hb, hc⟩ := h.sl.at_ hne;have g := fun q hq => flat_get l j hj q hq;have c0 := hc (j * 5 + 0) _ (g 0 (by omega));have c1 := hc (j * 5 + 1) _ (g 1 (by omega));have c2 := hc (j * 5 + 2) _ (g 2 (by omega));have c3 := hc (j * 5 + 3) _ (g 3 (by omega));have c4 := hc (j * 5 + 4) _ (g 4 (by omega));exact ⟨b, off, e, hb, c0, by rw [<- Nat.add_assoc] at c1; exact c1, by rw [<- Nat.add_assoc] at c2; exact c2, by rw [<- Nat.add_assoc] at c3; exact c3, by rw [<- Nat.add_assoc] at c4; exact c4⟩
theorem Ags.below {w w' : World} {A : Option Addr} {n : Nat} {l : List Ag} (h : Ags w A n l) (hb : Below w.heap.size w w') : Ags w' A n l := ⟨h.sl.below hb, h.len, h.n_le, h.ok⟩
structure Jb4 (w : World) (b : Nat) (a : Ag) : Prop where
 blk : w.heap[b]? = some (.cells #[.int .i64 a.c, .int .i64 a.hi, .int .u64 a.lo, .int .i64 a.mn, .int .i64 a.mx] 167 (0, 0))
theorem Jb4.lt {w : World} {b : Nat} {a : Ag} (h : Jb4 w b a) : b < w.heap.size := lt_of_block h.blk
theorem Jb4.cells {w : World} {b : Nat} {a : Ag} (h : Jb4 w b a) : w.cell? ⟨b, 0, none⟩ = some (.int .i64 a.c) /\ w.cell? ⟨b, 1, none⟩ = some (.int .i64 a.hi) /\ w.cell? ⟨b, 2, none⟩ = some (.int .u64 a.lo) /\ w.cell? ⟨b, 3, none⟩ = some (.int .i64 a.mn) /\ w.cell? ⟨b, 4, none⟩ = some (.int .i64 a.mx) :=
 ⟨cell_of_row w b 0 _ _ _ h.blk, cell_of_row w b 1 _ _ _ h.blk, cell_of_row w b 2 _ _ _ h.blk, cell_of_row w b 3 _ _ _ h.blk, cell_of_row w b 4 _ _ _ h.blk⟩
theorem Jb4.free {w : World} {b : Nat} {a : Ag} (h : Jb4 w b a) (j : Nat) : w.frozen? ⟨b, j, none⟩ = false := frozen_of_row w b j _ _ h.blk
theorem Jb4.below {w w' : World} {b : Nat} {a : Ag} (h : Jb4 w b a) (hb : Below w.heap.size w w') : Jb4 w' b a := ⟨(hb.block b h.lt).trans h.blk⟩
theorem Jb4.new (w : World) (a : Ag) : Jb4 (w.alloc (.cells #[.int .i64 a.c, .int .i64 a.hi, .int .u64 a.lo, .int .i64 a.mn, .int .i64 a.mx] 167)) w.heap.size a := ⟨heap_alloc_new w _⟩
theorem Jb4.set {w : World} {b : Nat} {a : Ag} (h : Jb4 w b a) (x : Ag) : Jb4 (((((w.setCell ⟨b, 0, none⟩ (.int .i64 x.c)).setCell ⟨b, 1, none⟩ (.int .i64 x.hi)).setCell ⟨b, 2, none⟩ (.int .u64 x.lo)).setCell ⟨b, 3, none⟩ (.int .i64 x.mn)).setCell ⟨b, 4, none⟩ (.int .i64 x.mx)) b x := by
 have h0 := heap_setCell_same w b 0 _ _ (.int .i64 x.c) h.blk;have h1 := heap_setCell_same _ b 1 _ _ (.int .i64 x.hi) h0;have h2 := heap_setCell_same _ b 2 _ _ (.int .u64 x.lo) h1;have h3 := heap_setCell_same _ b 3 _ _ (.int .i64 x.mn) h2;have h4 := heap_setCell_same _ b 4 _ _ (.int .i64 x.mx) h3;exact ⟨h4⟩
theorem Jb4.other {w : World} {b : Nat} {a : Ag} (h : Jb4 w b a) {p : Addr} (hp : b ≠ p.block) (u : Value) : Jb4 (w.setCell p u) b a := ⟨(heap_setCell_other w p b u hp).trans h.blk⟩
theorem Ju0 (A : Option Addr) (n c : Nat) (l : List Ag) (w : World) (h : Ags w A n l) : Calls Tryz.prog 166 #[.slice A n c] w fun e w' => e = .returned (Jbh l).val /\ Below w.heap.size w w' := by
 have hn := h.n_le;have HL := zI h.len;unfold maxLen at hn;go_enter Tryz.func166, Tryz.ntmps166;go_wp2;have B0 : Jb4 (w.alloc (.cells #[.int .i64 0, .int .i64 0, .int .u64 0, .int .i64 0, .int .i64 0] 167)) w.heap.size Ag.zero := Jb4.new w Ag.zero;have B0' := B0.below ((Below.refl _ _).alloc (Nat.le_refl _) (.cells #[.int .i64 0, .int .i64 0, .int .u64 0, .int .i64 0, .int .i64 0] 167))
 have B1 : Jb4 ((w.alloc (.cells #[.int .i64 0, .int .i64 0, .int .u64 0, .int .i64 0, .int .i64 0] 167)).alloc (.cells #[.int .i64 0, .int .i64 0, .int .u64 0, .int .i64 0, .int .i64 0] 167)) (w.heap.size + 1) Ag.zero := by
  have := Jb4.new (w.alloc (.cells #[.int .i64 0, .int .i64 0, .int .u64 0, .int .i64 0, .int .i64 0] 167)) Ag.zero;rw [show (w.alloc (.cells #[.int .i64 0, .int .i64 0, .int .u64 0, .int .i64 0, .int .i64 0] 167)).heap.size = w.heap.size + 1 from by simp] at this;exact this
 have hb0 : Below w.heap.size w ((w.alloc (.cells #[.int .i64 0, .int .i64 0, .int .u64 0, .int .i64 0, .int .i64 0] 167)).alloc (.cells #[.int .i64 0, .int .i64 0, .int .u64 0, .int .i64 0, .int .i64 0] 167)) := ((Below.refl _ _).alloc (Nat.le_refl _) _).alloc (by simp) _;go_loopw [8] (fun i wr => ∃ j : Nat, j <= n /\ i = .int .i64 j /\ Jb4 wr (w.heap.size + 1) (Jbh (l.take j)) /\ Jb4 wr w.heap.size Ag.zero /\ Below w.heap.size w wr) (fun i _ => n - (intOf i).toNat)
 case atStart => exact ⟨0, Nat.zero_le _, rfl, B1, B0', hb0⟩
 case round =>
  clear B0 B0' B1 hb0;obtain ⟨j, hj, rfl, S, Z, hbr⟩ := hrel;have hS1 := S.lt;have hZ1 := Z.lt;obtain ⟨s0, s1, s2, s3, s4⟩ := S.cells;have f0 := S.free 0;have f1 := S.free 1;have f2 := S.free 2;have f3 := S.free 3;have f4 := S.free 4;by_cases hlt : j < n
  · have K : j < l.length := by rw [HL.out]; exact hlt
    obtain ⟨b, off, rfl, hb, c0, c1, c2, c3, c4⟩ := (h.below hbr).get K;have HN := zI (show Jbh (l.take (j + 1)) = Jbb (Jbh (l.take j)) l[j] from by rw [List.take_succ_eq_append_getElem K, Jis]);have HF := zI (Ag.Fit.merge (l := l.take j) (fun a ha => h.ok a (List.mem_of_mem_take ha)));have HO := zI (h.ok _ (List.getElem_mem K));generalize l[j]'K = x at *;generalize Jbh (l.take j) = s at *;cases hv : Jb3 x
    · have HV := zI hv
      have HX := zI (show Jbb s x = s from by unfold Jbb; rw [hv]; simp);clear hv;go_wp2_with (go_at_call 226; refine (Jbj x _).mono ?_; rw [HV.out]; rintro e w' ⟨rfl, rfl⟩)
      go_roundw
      case rel => exact ⟨j + 1, by omega, by go_num, by rw [HN.out, HX.out]; exact (S.below ((Below.refl _ wr).alloc (Nat.le_refl _) _)).below ((Below.refl _ _).alloc (Nat.le_refl _) _), (Z.below ((Below.refl _ wr).alloc (Nat.le_refl _) _)).below ((Below.refl _ _).alloc (Nat.le_refl _) _), (hbr.alloc hbr.size _).alloc (by have := hbr.size; simp; omega) _⟩
      case measure => simp [intOf]; omega
    · have HV := zI hv
      have HX := zI (show Jbb s x = Jea s x from by unfold Jbb; rw [hv]; simp);have HCX := zI (Jkm hv);clear hv
      go_wp2_with (first
       | (go_at_call 226; refine (Jbj x _).mono ?_; rw [HV.out]; rintro e w' ⟨rfl, rfl⟩)
       | (go_at_call 167; refine (Jq3 s x _ HF.out.ok HO.out HF.out.cnt (by have := HCX.out; omega)).mono ?_; rintro e w5 ⟨rfl, hb5⟩
          have S5 := ((S.below ((Below.refl _ wr).alloc (Nat.le_refl _) _)).below ((Below.refl _ _).alloc (Nat.le_refl _) _)).below hb5;have Z5 := ((Z.below ((Below.refl _ wr).alloc (Nat.le_refl _) _)).below ((Below.refl _ _).alloc (Nat.le_refl _) _)).below hb5;have hb05 := ((hbr.alloc hbr.size _).alloc (by have := hbr.size; simp; omega) _).trans (hb5.mono (by have := hbr.size; simp; omega));obtain ⟨s0, s1, s2, s3, s4⟩ := S5.cells;have f0 := S5.free 0;have f1 := S5.free 1;have f2 := S5.free 2;have f3 := S5.free 3;have f4 := S5.free 4))
      go_roundw
      case rel => exact ⟨j + 1, by omega, by go_num, by rw [HN.out, HX.out]; exact S5.set (Jea s x), ((((Z5.other (by simp) _).other (by simp) _).other (by simp) _).other (by simp) _).other (by simp) _, ((((hb05.setCell (by simp) _).setCell (by simp) _).setCell (by simp) _).setCell (by simp) _).setCell (by simp) _⟩
      case measure => simp [intOf]; omega
  · have e1 := zI (show l.take j = l from List.take_of_length_le (by rw [HL.out]; omega))
    rw [e1.out] at S s0 s1 s2 s3 s4;obtain ⟨z0, z1, z2, z3, z4⟩ := Z.cells;have p0 := Z.free 0;have p1 := Z.free 1;have p2 := Z.free 2;have p3 := Z.free 3;have p4 := Z.free 4;go_wp2;have R := Z.set (Jbh l);have hfin : Below w.heap.size w (((((wr.setCell ⟨w.heap.size, 0, none⟩ (.int .i64 (Jbh l).c)).setCell ⟨w.heap.size, 1, none⟩ (.int .i64 (Jbh l).hi)).setCell ⟨w.heap.size, 2, none⟩ (.int .u64 (Jbh l).lo)).setCell ⟨w.heap.size, 3, none⟩ (.int .i64 (Jbh l).mn)).setCell ⟨w.heap.size, 4, none⟩ (.int .i64 (Jbh l).mx)) := ((((hbr.setCell (by simp) _).setCell (by simp) _).setCell (by simp) _).setCell (by simp) _).setCell (by simp) _;generalize (((((wr.setCell ⟨w.heap.size, 0, none⟩ (.int .i64 (Jbh l).c)).setCell ⟨w.heap.size, 1, none⟩ (.int .i64 (Jbh l).hi)).setCell ⟨w.heap.size, 2, none⟩ (.int .u64 (Jbh l).lo)).setCell ⟨w.heap.size, 3, none⟩ (.int .i64 (Jbh l).mn)).setCell ⟨w.heap.size, 4, none⟩ (.int .i64 (Jbh l).mx)) = W at R hfin ⊢;obtain ⟨r0, r1, r2, r3, r4⟩ := R.cells;exact bodyPost_ret (v := (Jbh l).val) (by simp [results, Tryz.results166, go_sem, r0, r1, r2, r3, r4]) rfl ⟨rfl, hfin⟩
end Go.Proofs.YtalkkhafcfhglaaGreatDoor
