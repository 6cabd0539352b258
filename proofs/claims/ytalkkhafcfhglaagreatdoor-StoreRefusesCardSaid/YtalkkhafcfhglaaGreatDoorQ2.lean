/-
  Several texts in one: AggOf, Place, Order, Tab.
-/
import Derived.Deep.RegionWith
import Derived.Maps.OwnSet
import Derived.Maps.RangeWalk
import Derived.DeepKeys4
import Derived.Sort.Walk0
import Derived.DeepKeys2
import Derived.Lib.SlMapFilter
import Derived.Maps.Ext
import Derived.Test.YtalkkhafcfhglaaGreatDoorQ1
set_option maxRecDepth 100000
set_option maxHeartbeats 4000000
namespace Go.Proofs.YtalkkhafcfhglaaGreatDoor
open Go.RowKit
def oneG (v : Int) : Ag := ⟨1, v / 9223372036854775808, IntKind.u64.wrap v, v, v⟩
theorem Ag.Fit.one {v : Int} (h : -9223372036854775808 <= v /\ v <= 9223372036854775807) : (oneG v).Fit := by
 have hu := Jlv v;refine ⟨⟨by simp [oneG], ?_, ?_, h, h⟩, by simp [oneG]⟩
 · simp only [oneG]; omega
 · simp only [oneG]; omega
theorem J2f (v : Int) (w : World) (h : -9223372036854775808 <= v /\ v <= 9223372036854775807) : Calls Tryz.prog 168 #[.int .i64 v] w fun e w' => e = .returned (oneG v).val /\ Below w.heap.size w w' := by
 obtain ⟨h1, h2⟩ := h;go_enter Tryz.func168, Tryz.ntmps168;go_wp2;exact bodyPost_ret (v := (oneG v).val) (by simp [results, Tryz.results168, go_sem, oneG]) rfl ⟨rfl, (Below.refl _ _).alloc (Nat.le_refl _) _⟩
def J1z (s : Ag) (v : Int) : Ag := Jea s (oneG v)
def ofL (l : List Int) : Ag := l.foldl J1z Ag.zero
theorem Jq4 (l : List Int) (v : Int) : ofL (l ++ [v]) = J1z (ofL l) v := by simp [ofL, List.foldl_append]
theorem Jkn {z : Int} (h : (Lit.int .i64 z).wf = true) : -9223372036854775808 <= z /\ z <= 9223372036854775807 := by
 have : IntKind.i64.min = -9223372036854775808 /\ IntKind.i64.max = 9223372036854775807 := by decide
 simpa [Lit.wf, this.1, this.2] using h
theorem Ag.Fit.of : ∀ {l : List Int}, (∀ v ∈ l, (Lit.int .i64 v).wf = true) -> (ofL l).Fit := by
 intro l;obtain ⟨m, rfl⟩ : ∃ m : List Int, l = m.reverse := ⟨l.reverse, by simp⟩
 induction m with
 | nil => intro _; exact Ag.Fit.zero
 | cons a r ih =>
   intro h;rw [List.reverse_cons, Jq4];exact (ih (fun x hx => h x (by simp at hx ⊢; exact .inl hx))).both (Ag.Fit.one (Jkn (h a (by simp))))
theorem J4p (A : Option Addr) (n c : Nat) (l : List Int) (w : World) (h : Ints w .i64 A n l) : Calls Tryz.prog 95 #[.slice A n c] w fun e w' => e = .returned (ofL l).val /\ Below w.heap.size w w' := by
 have hn := h.n_le;have HL := zI h.len;unfold maxLen at hn;go_enter Tryz.func95, Tryz.ntmps95;go_wp2;have B0 : Jb4 (w.alloc (.cells #[.int .i64 0, .int .i64 0, .int .u64 0, .int .i64 0, .int .i64 0] 167)) w.heap.size Ag.zero := Jb4.new w Ag.zero;have B0' := B0.below ((Below.refl _ _).alloc (Nat.le_refl _) (.cells #[.int .i64 0, .int .i64 0, .int .u64 0, .int .i64 0, .int .i64 0] 167))
 have B1 : Jb4 ((w.alloc (.cells #[.int .i64 0, .int .i64 0, .int .u64 0, .int .i64 0, .int .i64 0] 167)).alloc (.cells #[.int .i64 0, .int .i64 0, .int .u64 0, .int .i64 0, .int .i64 0] 167)) (w.heap.size + 1) Ag.zero := by
  have := Jb4.new (w.alloc (.cells #[.int .i64 0, .int .i64 0, .int .u64 0, .int .i64 0, .int .i64 0] 167)) Ag.zero;rw [show (w.alloc (.cells #[.int .i64 0, .int .i64 0, .int .u64 0, .int .i64 0, .int .i64 0] 167)).heap.size = w.heap.size + 1 from by simp] at this;exact this
 have hb0 : Below w.heap.size w ((w.alloc (.cells #[.int .i64 0, .int .i64 0, .int .u64 0, .int .i64 0, .int .i64 0] 167)).alloc (.cells #[.int .i64 0, .int .i64 0, .int .u64 0, .int .i64 0, .int .i64 0] 167)) := ((Below.refl _ _).alloc (Nat.le_refl _) _).alloc (by simp) _;go_loopw [8] (fun i wr => ∃ j : Nat, j <= n /\ i = .int .i64 j /\ Jb4 wr (w.heap.size + 1) (ofL (l.take j)) /\ Jb4 wr w.heap.size Ag.zero /\ Below w.heap.size w wr) (fun i _ => n - (intOf i).toNat)
 case atStart => exact ⟨0, Nat.zero_le _, rfl, B1, B0', hb0⟩
 case round =>
  clear B0 B0' B1 hb0;obtain ⟨j, hj, rfl, S, Z, hbr⟩ := hrel;have hS1 := S.lt;have hZ1 := Z.lt;by_cases hlt : j < n
  · have K : j < l.length := by rw [HL.out]; exact hlt
    obtain ⟨b, off, rfl, hb, c0⟩ := (h.below hbr).get K;have HN := zI (show ofL (l.take (j + 1)) = Jea (ofL (l.take j)) (oneG l[j]) from by rw [List.take_succ_eq_append_getElem K, Jq4]; rfl);have HF := zI (Ag.Fit.of (l := l.take j) (fun a ha => h.wf a (List.mem_of_mem_take ha)));have HB := zI (Jkn (h.wf _ (List.getElem_mem K)));generalize l[j]'K = x at *;generalize ofL (l.take j) = s at *;obtain ⟨s0, s1, s2, s3, s4⟩ := S.cells;have SD := S.below ((Below.refl wr.heap.size wr).drew);have ZD := Z.below ((Below.refl wr.heap.size wr).drew);have hbD := hbr.drew;obtain ⟨d0, d1, d2, d3, d4⟩ := SD.cells;clear s0 s1 s2 s3 s4;go_wp2_with fail
    go_region_with (first
     | (go_at_call 168; refine (J2f x _ HB.out).mono ?_; rintro e wq ⟨rfl, hbq⟩
        have S2 := SD.below hbq;have Z2 := ZD.below hbq;have hb2 := hbD.trans (hbq.mono hbD.size);obtain ⟨e0, e1, e2, e3, e4⟩ := S2.cells)
     | (go_at_call 167; refine (Jq3 s (oneG x) _ HF.out.ok (Ag.Fit.one HB.out).ok HF.out.cnt (Ag.Fit.one HB.out).cnt).mono ?_; rintro e wp ⟨rfl, hbp⟩
        have S3 := S2.below hbp;have Z3 := Z2.below hbp;have hb3 := hb2.trans (hbp.mono hb2.size);obtain ⟨p0, p1, p2, p3, p4⟩ := S3.cells;have f0 := S3.free 0;have f1 := S3.free 1;have f2 := S3.free 2;have f3 := S3.free 3;have f4 := S3.free 4))
    all_goals
     go_wp2;go_roundw
     case rel => exact ⟨j + 1, by omega, by go_num, by rw [HN.out]; exact S3.set (Jea s (oneG x)), ((((Z3.other (by simp) _).other (by simp) _).other (by simp) _).other (by simp) _).other (by simp) _, ((((hb3.setCell (by simp) _).setCell (by simp) _).setCell (by simp) _).setCell (by simp) _).setCell (by simp) _⟩
     case measure => simp [intOf]; omega
  · have e1 := zI (show l.take j = l from List.take_of_length_le (by rw [HL.out]; omega))
    rw [e1.out] at S;obtain ⟨s0, s1, s2, s3, s4⟩ := S.cells;obtain ⟨z0, z1, z2, z3, z4⟩ := Z.cells;have p0 := Z.free 0;have p1 := Z.free 1;have p2 := Z.free 2;have p3 := Z.free 3;have p4 := Z.free 4;go_wp2;have R := Z.set (ofL l);have hfin : Below w.heap.size w (((((wr.setCell ⟨w.heap.size, 0, none⟩ (.int .i64 (ofL l).c)).setCell ⟨w.heap.size, 1, none⟩ (.int .i64 (ofL l).hi)).setCell ⟨w.heap.size, 2, none⟩ (.int .u64 (ofL l).lo)).setCell ⟨w.heap.size, 3, none⟩ (.int .i64 (ofL l).mn)).setCell ⟨w.heap.size, 4, none⟩ (.int .i64 (ofL l).mx)) := ((((hbr.setCell (by simp) _).setCell (by simp) _).setCell (by simp) _).setCell (by simp) _).setCell (by simp) _;generalize (((((wr.setCell ⟨w.heap.size, 0, none⟩ (.int .i64 (ofL l).c)).setCell ⟨w.heap.size, 1, none⟩ (.int .i64 (ofL l).hi)).setCell ⟨w.heap.size, 2, none⟩ (.int .u64 (ofL l).lo)).setCell ⟨w.heap.size, 3, none⟩ (.int .i64 (ofL l).mn)).setCell ⟨w.heap.size, 4, none⟩ (.int .i64 (ofL l).mx)) = W at R hfin ⊢;obtain ⟨r0, r1, r2, r3, r4⟩ := R.cells;exact bodyPost_ret (v := (ofL l).val) (by simp [results, Tryz.results95, go_sem, r0, r1, r2, r3, r4]) rfl ⟨rfl, hfin⟩
open Go.Maps
def klit (s : ByteArray) (n : Int) : Lit := .string (keyBytes [.string s.data.toList, .int .i64 n])
abbrev Jes (s : ByteArray) (n : Int) : Value := .agg #[.string s, .int .i64 n]
theorem Jni : ∃ m, Tryz.prog.types.size = m + 1 := by
 have h : 0 < Tryz.prog.types.size := of_decide_eq_true (by kernel_rfl);exact ⟨Tryz.prog.types.size - 1, by omega⟩
theorem Jdw : Keyed Tryz.prog 268 := Keyed.of_law (deep_law_laid (by kernel_rfl) (m := 3) (by omega) (of_decide_eq_true (by kernel_rfl)) (by kernel_rfl) (by kernel_rfl))
theorem Jnj {s : ByteArray} {n : Int} (hs : s.size <= maxLen) (hn : (Lit.int .i64 n).wf = true) : keyOf Tryz.prog 268 (Jes s n) = some (klit s n) := by
 obtain ⟨m, hm⟩ := Jni;have h1 : Tryz.prog.keyType 268 = true := by kernel_rfl
 have h2 : (Jes s n).formed Tryz.prog 268 = true := by
  have hc : Tryz.prog.cellsOf 268 = 2 := by kernel_rfl
  simp [Value.formed, Tryz.underlying268, hc]
 have hc : Tryz.prog.cellsOf 268 = 2 := by kernel_rfl
 have c3 : Tryz.prog.cellsOf 3 = 1 := by kernel_rfl
 have c9 : Tryz.prog.cellsOf 9 = 1 := by kernel_rfl
 have h3 : Tryz.prog.keyLits (Tryz.prog.types.size + 1) 268 (Jes s n).cells.toList = some [.string s.data.toList, .int .i64 n] := by
  rw [hm];simp [Program.keyLits, Value.cells, Tryz.underlying268, Tryz.underlying9, Tryz.underlying3, hc, c3, c9, hs, hn]
 unfold keyOf;rw [Tryz.underlying268];simp only [h1, h2, Bool.and_self, if_true, h3, Option.map_some];rfl
end Go.Proofs.YtalkkhafcfhglaaGreatDoor
namespace Go.Proofs.YtalkkhafcfhglaaGreatDoor
open Go.RowKit
theorem J2g (a b : List UInt8) : Op.bytesLess a b = decide (a < b) := Go.Proofs.bytesLess_eq a b
theorem Ju1 (a : List UInt8) : Op.bytesLess a a = false := by rw [J2g]; simp
theorem Jy7 {a b c : List UInt8} (h : Op.bytesLess a b = true) (k : Op.bytesLess b c = true) : Op.bytesLess a c = true := by
 rw [J2g, decide_eq_true_iff] at *; exact List.lt_trans h k
theorem Jy8 {a b : List UInt8} (h : Op.bytesLess a b = false) (k : Op.bytesLess b a = false) : a = b := by
 rw [J2g, decide_eq_false_iff_not] at *; exact List.le_antisymm (List.not_lt.1 k) (List.not_lt.1 h)
def ahead (a : List UInt8) (x : Int) (b : List UInt8) (y : Int) : Prop := Op.bytesLess a b = true \/ (a = b /\ x < y)
theorem Jy9 (a : List UInt8) (x : Int) (b : List UInt8) (y : Int) : cmpR a x b y < 0 ↔ ahead a x b y := by
 unfold cmpR cmpS cmpI ahead;cases h : Op.bytesLess a b
 · by_cases e : a = b
   · subst e
     simp
     by_cases h2 : x < y
     · simp [h2]
     · by_cases h3 : y < x <;> simp [h2, h3]
   · simp [e]
 · simp
def Jc7 (a : List UInt8) (x : Int) (b : List UInt8) (y : Int) : Bool := decide (cmpR a x b y < 0)
theorem Jb1 (a : List UInt8) (x : Int) (b : List UInt8) (y : Int) : Jc7 a x b y = true ↔ ahead a x b y := by
 unfold Jc7; rw [decide_eq_true_iff]; exact Jy9 a x b y
theorem Jey (a : List UInt8) (x : Int) : ¬ ahead a x a x := by
 unfold ahead; rw [Ju1]; simp
theorem Jit {a b c : List UInt8} {x y z : Int} (h : ahead a x b y) (k : ahead b y c z) : ahead a x c z := by
 rcases h with h | ⟨rfl, h⟩
 · rcases k with k | ⟨rfl, k⟩
   · exact .inl (Jy7 h k)
   · exact .inl h
 · rcases k with k | ⟨rfl, k⟩
   · exact .inl k
   · exact .inr ⟨rfl, by omega⟩
theorem Jiu {a b : List UInt8} {x y : Int} (h : ¬ ahead a x b y) (k : ¬ ahead b y a x) : a = b /\ x = y := by
 unfold ahead at h k
 have e : a = b := by
  apply Jy8
  · cases hh : Op.bytesLess a b
    · rfl
    · exact absurd (.inl hh) h
  · cases hh : Op.bytesLess b a
    · rfl
    · exact absurd (.inl hh) k
 subst e;refine ⟨rfl, ?_⟩;have h1 : ¬ x < y := fun hh => h (.inr ⟨rfl, hh⟩);have h2 : ¬ y < x := fun hh => k (.inr ⟨rfl, hh⟩);omega
theorem Jlw (a : List UInt8) (x : Int) : Jc7 a x a x = false := by
 cases h : Jc7 a x a x
 · rfl
 · exact absurd ((Jb1 _ _ _ _).1 h) (Jey a x)
theorem Jh6 {a b c : List UInt8} {x y z : Int} (h : Jc7 a x b y = true) (k : Jc7 b y c z = true) : Jc7 a x c z = true :=
 (Jb1 _ _ _ _).2 (Jit ((Jb1 _ _ _ _).1 h) ((Jb1 _ _ _ _).1 k))
theorem Jnk {a b : List UInt8} {x y : Int} (h : Jc7 a x b y = false) (k : Jc7 b y a x = false) : a = b /\ x = y :=
 Jiu (fun hh => by rw [(Jb1 _ _ _ _).2 hh] at h; cases h) (fun hh => by rw [(Jb1 _ _ _ _).2 hh] at k; cases k)
open Go.Maps
structure Rc where
 nm : ByteArray
 st : Int
 ag : Ag
deriving DecidableEq
def Rc.cells (r : Rc) : List Value := .string r.nm :: .int .i64 r.st :: r.ag.cells
abbrev Rc.val (r : Rc) : Value := .agg #[.string r.nm, .int .i64 r.st, .int .i64 r.ag.c, .int .i64 r.ag.hi, .int .u64 r.ag.lo, .int .i64 r.ag.mn, .int .i64 r.ag.mx]
structure Rc.Ok (r : Rc) : Prop where
 nm : r.nm.size <= maxLen
 st : (Lit.int .i64 r.st).wf = true
 ag : r.ag.Fit
def agD (a : Ag) : DataW Unit := .agg [.lit (.int .i64 a.c), .lit (.int .i64 a.hi), .lit (.int .u64 a.lo), .lit (.int .i64 a.mn), .lit (.int .i64 a.mx)]
def Jez (v : Value) : Option (DataW Unit × List MemPlace) := match v with
 | .agg xs => match xs.toList with
   | [.int .i64 c, .int .i64 hi, .int .u64 lo, .int .i64 mn, .int .i64 mx] => some (agD ⟨c, hi, lo, mn, mx⟩, [])
   | _ => none
 | _ => none
theorem Jnl (a : Ag) : Jez a.val = some (agD a, []) := rfl
theorem Jhp {v : Value} {z : DataW Unit × List MemPlace} (h : Jez v = some z) : ∃ a : Ag, v = a.val /\ z = (agD a, []) := by
 unfold Jez at h;split at h
 · next xs =>
   split at h
   · next c hi lo mn mx e =>
     cases h
     refine ⟨⟨c, hi, lo, mn, mx⟩, ?_, rfl⟩;show Value.agg xs = Value.agg _
     congr 1
     exact (show xs = xs.toList.toArray from by simp).trans (by rw [e])
   · cases h
 · cases h
theorem Jpu {a b : Ag} (h : agD a = agD b) : a = b := by
 obtain ⟨c, hi, lo, mn, mx⟩ := a;obtain ⟨c', hi', lo', mn', mx'⟩ := b;simp [agD] at h;simp [h]
theorem Ju2 {v : Value} {l : Lit} (h : keyOf Tryz.prog 268 v = some l) : ∃ s n, v = Jes s n /\ l = klit s n /\ s.size <= maxLen /\ (Lit.int .i64 n).wf = true := by
 obtain ⟨xs, L, rfl, hl, rfl⟩ := keyOf_top (by rw [Tryz.underlying268]) h;obtain ⟨m, hm⟩ := Jni;have hc : Tryz.prog.cellsOf 268 = 2 := by kernel_rfl
 have c3 : Tryz.prog.cellsOf 3 = 1 := by kernel_rfl
 have c9 : Tryz.prog.cellsOf 9 = 1 := by kernel_rfl
 rw [hm] at hl;unfold Program.keyLits at hl;simp only [Tryz.underlying268] at hl;split at hl
 · rename_i hlen
   obtain ⟨a, b, e⟩ : ∃ a b, xs.toList = [a, b] := by 
    have := hlen.1;rw [hc] at this;cases hx : xs.toList with
    | nil => rw [hx] at this; simp at this
    | cons a r =>
      rw [hx] at this;cases r with
      | nil => simp at this
      | cons b r =>
        cases r with
        | nil => exact ⟨a, b, rfl⟩
        | cons c r => simp at this
   rw [e] at hl;have ex : xs = #[a, b] := (show xs = xs.toList.toArray from by simp).trans (by rw [e]);cases a <;> simp [Program.keyLits, Tryz.underlying9, Tryz.underlying3, c3, c9] at hl
   rename_i s
   by_cases hz : s.size <= maxLen
   · cases b <;> simp [hz] at hl
     rename_i k n
     by_cases hk : k = IntKind.i64 /\ (Lit.int IntKind.i64 n).wf = true
     · obtain ⟨rfl, hn⟩ := hk
       simp [hn] at hl;exact ⟨s, n, by rw [ex], by rw [<- hl]; rfl, hz, hn⟩
     · simp [hk] at hl
   · simp [hz] at hl
 · cases hl
theorem Jza {s t : ByteArray} {a b : Int} (hs : s.size <= maxLen) (ha : (Lit.int .i64 a).wf = true) (ht : t.size <= maxLen) (hb : (Lit.int .i64 b).wf = true) (h : klit s a = klit t b) : s = t /\ a = b := by
 have h1 := Jnj hs ha;have h2 := Jnj ht hb;rw [<- h] at h2;have := Jdw.inj h1 h2
 simpa [Jes] using this
theorem bytes_inj {s t : ByteArray} (h : s.toList = t.toList) : s = t := by
 rw [ByteArray.toList_eq, ByteArray.toList_eq] at h;exact ByteArray.ext (Array.toList_inj.1 h)
def Rc.lt (r s : Rc) : Prop := ahead r.nm.toList r.st s.nm.toList s.st
def Rc.same (r s : Rc) : Bool := decide (r.nm = s.nm /\ r.st = s.st)
theorem Rc.same_iff {r s : Rc} : r.same s = true ↔ r.nm = s.nm /\ r.st = s.st := by unfold Rc.same; rw [decide_eq_true_iff]
theorem Rc.same_symm (r s : Rc) : r.same s = s.same r := by
 unfold Rc.same;rw [Bool.eq_iff_iff]; simp only [decide_eq_true_eq];constructor <;> rintro ⟨h1, h2⟩ <;> exact ⟨h1.symm, h2.symm⟩
theorem Rc.lt_not_same {r s : Rc} (h : r.lt s) : r.same s = false := by
 cases hs : r.same s
 · rfl
 · obtain ⟨h1, h2⟩ := Rc.same_iff.1 hs
   unfold Rc.lt at h;rw [h1, h2] at h;exact absurd h (Jey _ _)
theorem Rc.lt_trans {r s t : Rc} (h : r.lt s) (k : s.lt t) : r.lt t := Jit h k
theorem Rc.total {r s : Rc} (h : ¬ r.lt s) (k : r.same s = false) : s.lt r := by
 by_cases g : s.lt r
 · exact g
 · obtain ⟨h1, h2⟩ := Jiu h g
   rw [show r.same s = true from Rc.same_iff.2 ⟨bytes_inj h1, h2⟩] at k;cases k
theorem Rc.lt_of_same {r s t : Rc} (h : r.same s = true) (k : s.lt t) : r.lt t := by
 obtain ⟨h1, h2⟩ := Rc.same_iff.1 h;unfold Rc.lt at *;rw [h1, h2]; exact k
open Classical in
noncomputable def putR (x : Rc) : List Rc -> List Rc
 | [] => [x]
 | y :: r => if x.same y = true then x :: r else if x.lt y then x :: y :: r else y :: putR x r
theorem Jlx {x z : Rc} : ∀ {l : List Rc}, z ∈ putR x l -> z = x \/ z ∈ l
 | [], h => by simp [putR] at h; exact .inl h
 | y :: r, h => by
   unfold putR at h;split at h
   · rcases List.mem_cons.1 h with h | h
     · exact .inl h
     · exact .inr (by simp [h])
   · split at h
     · rcases List.mem_cons.1 h with h | h
       · exact .inl h
       · exact .inr h
     · rcases List.mem_cons.1 h with h | h
       · exact .inr (by simp [h])
       · rcases Jlx h with h | h
         · exact .inl h
         · exact .inr (by simp [h])
theorem Jly {x : Rc} : ∀ {l : List Rc}, l.Pairwise Rc.lt -> (putR x l).Pairwise Rc.lt
 | [], _ => by simp [putR]
 | y :: r, h => by
   rw [List.pairwise_cons] at h;unfold putR;split
   · next e =>
     rw [List.pairwise_cons];exact ⟨fun z hz => Rc.lt_of_same e (h.1 z hz), h.2⟩
   · next e =>
     split
     · next k =>
       rw [List.pairwise_cons];refine ⟨fun z hz => ?_, List.pairwise_cons.2 h⟩;rcases List.mem_cons.1 hz with rfl | hz
       · exact k
       · exact Rc.lt_trans k (h.1 z hz)
     · next k =>
       rw [List.pairwise_cons];refine ⟨fun z hz => ?_, Jly h.2⟩;rcases Jlx hz with rfl | hz
       · exact Rc.total k (by simpa using e)
       · exact h.1 z hz
theorem Jiv {x : Rc} : ∀ {l : List Rc}, l.Pairwise Rc.lt -> (putR x l).Perm (x :: l.filter fun y => !x.same y)
 | [], _ => by simp [putR]
 | y :: r, h => by
   rw [List.pairwise_cons] at h;unfold putR;split
   · next e =>
     have e2 : (y :: r).filter (fun y => !x.same y) = r := by
      rw [List.filter_cons, if_neg (by simp [e])];exact List.filter_eq_self.2 (fun z hz => by rw [Rc.lt_not_same (Rc.lt_of_same e (h.1 z hz))]; rfl)
     rw [e2]
   · next e =>
     split
     · next k =>
       rw [List.filter_eq_self.2 (fun z hz => by
        rcases List.mem_cons.1 hz with rfl | hz
        · simpa using e
        · rw [Rc.lt_not_same (Rc.lt_trans k (h.1 z hz))]; rfl)]
     · next k =>
       rw [List.filter_cons, if_pos (by simpa using e)];exact ((Jiv h.2).cons y).trans (List.Perm.swap x y _)
theorem Jpv : ∀ {l k : List Rc}, l.Pairwise Rc.lt -> k.Pairwise Rc.lt -> l.Perm k -> l = k
 | [], k, _, _, h => by have := h.length_eq; simp at this; exact (List.eq_nil_of_length_eq_zero this.symm).symm
 | x :: r, [], _, _, h => by have := h.length_eq; simp at this
 | x :: r, y :: s, hl, hk, h => by
   rw [List.pairwise_cons] at hl hk
   have e : x = y := by
    have h1 := h.mem_iff.1 (show x ∈ x :: r by simp);have h2 := h.mem_iff.2 (show y ∈ y :: s by simp);rcases List.mem_cons.1 h1 with h1 | h1
    · exact h1
    · rcases List.mem_cons.1 h2 with h2 | h2
      · exact h2.symm
      · exact absurd (Rc.lt_trans (hl.1 y h2) (hk.1 x h1)) (Jey _ _)
   subst e;rw [Jpv hl.2 hk.2 (List.perm_cons x |>.1 h)]
def Jid (l : List Rc) (s : ByteArray) (n : Int) : Option Rc := l.find? fun r => decide (r.nm = s /\ r.st = n)
theorem Jfl {l : List Rc} {s : ByteArray} {n : Int} {r : Rc} (h : Jid l s n = some r) : r ∈ l /\ r.nm = s /\ r.st = n := by
 have h1 := List.mem_of_find?_eq_some h;have h2 := List.find?_some h;rw [decide_eq_true_iff] at h2;exact ⟨h1, h2⟩
theorem Js8 {l : List Rc} {s : ByteArray} {n : Int} (h : Jid l s n = none) : ∀ r ∈ l, ¬ (r.nm = s /\ r.st = n) := by
 intro r hr;have := List.find?_eq_none.1 h r hr
 simpa using this
def recP (r : Rc) : Lit × DataW Unit := (klit r.nm r.st, agD r.ag)
structure Rep (D : DataW Unit) (l : List Rc) : Prop where
 perm : ∃ ps, D = .map ps /\ ps.Perm (l.map recP)
 ok : ∀ r ∈ l, r.Ok
 ord : l.Pairwise Rc.lt
theorem Jfm {r : Rc} (hr : r.Ok) {s : ByteArray} {n : Int} (hs : s.size <= maxLen) (hn : (Lit.int .i64 n).wf = true) : klit r.nm r.st = klit s n ↔ r.nm = s /\ r.st = n :=
 ⟨fun h => Jza hr.nm hr.st hs hn h, fun ⟨h1, h2⟩ => by rw [h1, h2]⟩
theorem Jgp {a b : Int} {s t : ByteArray} : (klit s a).sameKey (klit t b) = true ↔ klit s a = klit t b :=
 WideAt.sameKey_iff (by simp [klit, WideAt.IsKeyLit])
theorem Rep.size {D : DataW Unit} {l : List Rc} (h : Rep D l) : Maps.size D = l.length := by
 obtain ⟨ps, rfl, hp⟩ := h.perm;rw [Maps.size_eq, hp.length_eq, List.length_map]
theorem Rep.apart {D : DataW Unit} {l : List Rc} (h : Rep D l) : ∃ ps, D = .map ps /\ ps.Perm (l.map recP) /\ ps.Pairwise (fun p q => p.1 ≠ q.1) := by
 obtain ⟨ps, rfl, hp⟩ := h.perm;refine ⟨ps, rfl, hp, ?_⟩;refine (hp.pairwise_iff (fun {_ _} hne => Ne.symm hne)).2 ?_;rw [List.pairwise_map];refine List.Pairwise.imp_of_mem ?_ h.ord;intro a b ha hb hlt e;obtain ⟨h1, h2⟩ := (Jfm (h.ok a ha) (h.ok b hb).nm (h.ok b hb).st).1 e;have := Rc.lt_not_same hlt;rw [Rc.same_iff.2 ⟨h1, h2⟩] at this;cases this
theorem Rep.has {D : DataW Unit} {l : List Rc} (h : Rep D l) {s : ByteArray} {n : Int} (hs : s.size <= maxLen) (hn : (Lit.int .i64 n).wf = true) : Maps.has D (klit s n) = (Jid l s n).isSome := by
 obtain ⟨ps, rfl, hp⟩ := h.perm;rw [Maps.has_eq, Bool.eq_iff_iff];unfold Jid;rw [List.any_eq_true, List.find?_isSome];constructor
 · rintro ⟨p, hpm, hk⟩
   obtain ⟨r, hr, rfl⟩ := List.mem_map.1 (hp.mem_iff.1 hpm);exact ⟨r, hr, decide_eq_true ((Jfm (h.ok r hr) hs hn).1 (WideAt.sameKey_eq hk))⟩
 · rintro ⟨r, hr, hk⟩
   refine ⟨recP r, hp.mem_iff.2 (List.mem_map.2 ⟨r, hr, rfl⟩), ?_⟩;show (klit r.nm r.st).sameKey _ = true;exact Jgp.2 ((Jfm (h.ok r hr) hs hn).2 (of_decide_eq_true hk))
theorem Rep.at_ {D : DataW Unit} {l : List Rc} (h : Rep D l) {s : ByteArray} {n : Int} (hs : s.size <= maxLen) (hn : (Lit.int .i64 n).wf = true) (z : DataW Unit) : D.atKey (klit s n) z = match Jid l s n with | some r => agD r.ag | none => z := by
 obtain ⟨ps, rfl, hp, hap⟩ := h.apart;cases hf : Jid l s n with
 | none =>
   refine WideAt.atKey_none z (fun p hpm e => ?_);obtain ⟨r, hr, rfl⟩ := List.mem_map.1 (hp.mem_iff.1 hpm);exact Js8 hf r hr ((Jfm (h.ok r hr) hs hn).1 e)
 | some r =>
   obtain ⟨hr, rfl, rfl⟩ := Jfl hf;exact WideAt.atKey_mem z (Jdw.key (Jnj hs hn)) hap (hp.mem_iff.2 (List.mem_map.2 ⟨r, hr, rfl⟩))
theorem Rep.put {D : DataW Unit} {l : List Rc} (h : Rep D l) {x : Rc} (hx : x.Ok) : Rep (D.put (klit x.nm x.st) (agD x.ag)) (putR x l) := by
 obtain ⟨ps, rfl, hp⟩ := h.perm;refine ⟨?_, fun r hr => ?_, Jly h.ord⟩
 · refine ⟨_, by unfold DataW.put; rfl, ?_⟩
   refine (WideShapes.insert_perm _ _).trans ?_;have h2 := (Jiv (x := x) h.ord).map recP;refine List.Perm.trans ?_ h2.symm;rw [List.map_cons];refine List.Perm.cons _ ?_;refine (hp.filter _).trans ?_;rw [List.filter_map];refine List.Perm.of_eq ?_
   congr 1
   apply List.filter_congr;intro r hr;show (!(klit r.nm r.st).sameKey (klit x.nm x.st)) = !x.same r
   congr 1
   rw [Bool.eq_iff_iff, Rc.same_symm, Rc.same_iff];exact Jgp.trans (Jfm (h.ok r hr) hx.nm hx.st)
 · rcases Jlx hr with rfl | hr
   · exact hx
   · exact h.ok r hr
theorem Rep.nil : Rep (.map []) [] := ⟨⟨[], rfl, List.Perm.refl _⟩, by simp, List.Pairwise.nil⟩
theorem Rep.next {D : DataW Unit} {l : List Rc} (h : Rep D l) {v : Value} {kl : Lit} {c : Value} {y : DataW Unit × List MemPlace} (hk : keyOf Tryz.prog 268 v = some kl) (hc : Jez c = some y) (hat : ∀ z, D.atKey kl z = y.1) :
  ∃ r ∈ l, v = Jes r.nm r.st /\ kl = klit r.nm r.st /\ c = r.ag.val := by
 obtain ⟨s, n, rfl, rfl, hs, hn⟩ := Ju2 hk;obtain ⟨a, rfl, rfl⟩ := Jhp hc;have e := h.at_ hs hn;cases hf : Jid l s n with
 | none =>
   rw [hf] at e;have h1 := (e .nil).symm.trans (hat .nil);cases h1
 | some r =>
   rw [hf] at e;obtain ⟨hr, rfl, rfl⟩ := Jfl hf;have h1 := Jpu ((e .nil).symm.trans (hat .nil));exact ⟨r, hr, rfl, rfl, by rw [h1]⟩
end Go.Proofs.YtalkkhafcfhglaaGreatDoor
