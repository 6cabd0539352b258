/-
  Several texts in one: Table, Name, TableOn, TableRecs, TableRightA, TableRightB, TableRightC, TableRight.
-/
import Derived.Laws.IdiomRangeMap
import Derived.Deep.LoopGhost
import Derived.Maps.OwnOps
import Derived.Test.YtalkkhafcfhglaaGreatDoorQ2
set_option maxRecDepth 100000
set_option maxHeartbeats 4000000
namespace Go.Proofs.YtalkkhafcfhglaaGreatDoor
open Go.RowKit Go.Maps
theorem Jbr {H : Type} {P : Program} {k : TypeId} {R : Value -> Option (DataW H × List MemPlace)} {w : World} {b n : Nat} {D : DataW H} (h : w.ownsMap P k R b n D) : w.ownsMap P k R b (Maps.size D) D := by
 obtain ⟨es, clock, h1, h2, h3, h4⟩ := h;refine ⟨es, clock, h1, h2, ?_, h4⟩;rw [h4, Maps.size_eq, length_sorted]; simp
theorem Jaa {a b : World} (h : Below a.heap.size a b) (row : Option Nat) : a.grownBy b row := ⟨h.os, h.tape, h.output, h.size, fun i hi _ => h.block i hi⟩
theorem J2h (w : World) : (zeroValue 167).run Tryz.prog w = .ok Ag.zero.val w := by kernel_rfl
structure MapAt (w : World) (mm : Nat) (l : List Rc) : Prop where
 own : ∃ D, w.ownsMap Tryz.prog 268 Jez mm l.length D /\ Rep D l
theorem MapAt.mk' {w : World} {mm n : Nat} {D : DataW Unit} {l : List Rc} (h : w.ownsMap Tryz.prog 268 Jez mm n D) (hr : Rep D l) : MapAt w mm l :=
 ⟨D, by have := Jbr h; rwa [hr.size] at this, hr⟩
theorem MapAt.lt {w : World} {mm : Nat} {l : List Rc} (h : MapAt w mm l) : mm < w.heap.size := by obtain ⟨D, h1, _⟩ := h.own; exact h1.lt
theorem MapAt.grown {w w' : World} {mm : Nat} {l : List Rc} {row : Option Nat} (h : MapAt w mm l) (hg : w.grownBy w' row) (hne : some mm ≠ row) : MapAt w' mm l := by
 obtain ⟨D, h1, h2⟩ := h.own; exact ⟨D, h1.kept hg hne, h2⟩
theorem MapAt.below {w w' : World} {mm : Nat} {l : List Rc} (h : MapAt w mm l) (hb : Below w.heap.size w w') : MapAt w' mm l := h.grown (Jaa hb none) (by simp)
structure Jam (w : World) (g mm : Nat) (ev : Int) (l : List Rc) : Prop where
 blk : w.heap[g]? = some (.cells #[.int .i64 ev, .map (some mm)] 217 (0, 0))
 map : MapAt w mm l
section
variable {w w' : World} {g mm : Nat} {ev : Int} {l : List Rc}
theorem Jam.lt (h : Jam w g mm ev l) : g < w.heap.size := lt_of_block h.blk
theorem Jam.cells (h : Jam w g mm ev l) : w.cell? ⟨g, 0, none⟩ = some (.int .i64 ev) /\ w.cell? ⟨g, 1, none⟩ = some (.map (some mm)) :=
 ⟨cell_of_row w g 0 _ _ _ h.blk, cell_of_row w g 1 _ _ _ h.blk⟩
theorem Jam.ne (h : Jam w g mm ev l) : g ≠ mm := by
 intro e;obtain ⟨D, ⟨es, c, h1, _⟩, _⟩ := h.map.own;have := h.blk;rw [e, h1] at this; cases this
theorem Jam.below (h : Jam w g mm ev l) (hb : Below w.heap.size w w') : Jam w' g mm ev l := ⟨(hb.block g h.lt).trans h.blk, h.map.below hb⟩
theorem Jam.grown (h : Jam w g mm ev l) {row : Option Nat} (hg : w.grownBy w' row) (h1 : some g ≠ row) (h2 : some mm ≠ row) : Jam w' g mm ev l :=
 ⟨(hg.block g h.lt h1).trans h.blk, h.map.grown hg h2⟩
theorem Jam.turned (h : Jam w g mm ev l) (hg : w.grownBy w' (some mm)) {k : List Rc} (hm : MapAt w' mm k) : Jam w' g mm ev k :=
 ⟨(hg.block g h.lt (fun e => h.ne (by injection e))).trans h.blk, hm⟩
end
theorem Jnm {w : World} {g mm : Nat} {ev : Int} {l : List Rc} (h : Jam w g mm ev l) :
  Calls Tryz.prog 164 #[.pointer (some ⟨g, 0, none⟩)] w fun e w' => e = .returned (.bool false) /\ w = w' := by
 obtain ⟨c0, c1⟩ := h.cells;have hq := fun W => run_eql_map_nil (P := Tryz.prog) W _ _ _ (some mm) Tryz.underlying215;go_enter Tryz.func164, Tryz.ntmps164;go_wp2;go_ret;exact ⟨rfl, rfl⟩
theorem Jzb (n : Int) (w : World) : Calls Tryz.prog 58 #[.int .i64 n] w fun e w' => ∃ g mm, e = .returned (.pointer (some ⟨g, 0, none⟩)) /\ Jam w' g mm (max n 1) [] /\ Below w.heap.size w w' /\ w.heap.size <= g /\ w.heap.size <= mm := by
 have hmm := @run_makeMap Tryz.prog;go_enter Tryz.func58, Tryz.ntmps58;go_wp2;go_ret;refine ⟨w.heap.size + 1, w.heap.size, rfl, ⟨by have := heap_alloc_new (w.alloc (.map #[] 0)) (.cells #[.int .i64 (max n 1), .map (some w.heap.size)] 217); simpa using this, ?_⟩, ((Below.refl _ _).alloc (by omega) _).alloc (by simp) _, by omega, by omega⟩;exact ⟨_, (World.ownsMap_made w _ _ _).alloc _, Rep.nil⟩
end Go.Proofs.YtalkkhafcfhglaaGreatDoor
namespace Go.Proofs.YtalkkhafcfhglaaGreatDoor
open Go.RowKit
theorem Jzc (s : ByteArray) (w : World) (hs : s.size <= maxLen) :
  Calls Tryz.prog 230 #[.string s] w fun e w' => e = .returned (.int .u32 (hash s.toList)) /\ w = w' := by
 unfold maxLen at hs;go_enter Tryz.func230, Tryz.ntmps230;go_wp2;go_loop [3, 7] (fun x i => ∃ k : Nat, k <= s.size /\ i = .int .i64 k /\ x = .int .u32 (hash (s.toList.take k))) (fun _ i => s.size - (intOf i).toNat)
 case atStart => exact ⟨0, Nat.zero_le _, rfl, rfl⟩
 case round =>
  obtain ⟨k, hk, rfl, rfl⟩ := hrel;by_cases hlt : k < s.size
  · have HS : Hid (hash (s.toList.take (k + 1)) = Jkd (hash (s.toList.take k)) s[k]) := by rw [Jb2 s k hlt]; exact Juy _ _
    go_wp2;go_round
    case rel => exact ⟨k + 1, by omega, by go_num, by rw [HS.out]; rfl⟩
    case measure => simp [intOf]; omega
  · go_wp2
    go_ret;exact ⟨by rw [List.take_of_length_le (by rw [Jab]; omega)]; rfl, rfl⟩
theorem Jnn (s : ByteArray) (n : Int) (w : World) (hs : s.size <= maxLen) :
  Calls Tryz.prog 170 #[.string s, .int .i64 n] w fun e w' => e = .returned (.int .i64 (Jco s.toList n)) /\ w = w' := by
 have hb := Jpt s.toList;by_cases h : n < 1
 · have hf : Hid (Jco s.toList n = 0) := if_pos h
   go_enter Tryz.func170, Tryz.ntmps170;go_wp2;go_ret;exact ⟨by rw [hf.out]; rfl, rfl⟩
 · have hf : Hid (Jco s.toList n = hash s.toList % n) := if_neg h
   go_enter Tryz.func170, Tryz.ntmps170;go_wp2_with (go_at_call 230; refine (Jzc _ _ hs).mono ?_; rintro e w' ⟨rfl, rfl⟩)
   go_ret;exact ⟨by rw [hf.out]; rfl, rfl⟩
theorem Jdx (c : Int) (w : World) (h0 : 0 <= c) (h1 : c <= 255) :
  Calls Tryz.prog 181 #[.int .u8 c] w fun e w' => e = .returned (.bool (Jc6 c)) /\ w = w' := by
 by_cases a : 97 <= c <;> by_cases b : c <= 122 <;> by_cases d : 48 <= c <;> by_cases f : c <= 57 <;> by_cases g : c = 46 <;> by_cases i : c = 95 <;> by_cases j : c = 45 <;> try omega
 all_goals
  go_enter Tryz.func181, Tryz.ntmps181;go_wp2;go_ret
  first
   | exact ⟨by rw [Jkl (by omega)]; rfl, rfl⟩
   | exact ⟨Jag (by rw [Jng (by omega)]; simp; omega), rfl⟩
theorem J2i (a : ByteArray) (w : World) :
  Calls Tryz.prog 298 #[.string a] w fun e w' => e = .returned (.bool false) /\ w = w' := by
 go_enter Tryz.func298, Tryz.ntmps298;go_wp2;go_ret;exact ⟨by simp, rfl⟩
theorem J2j (a : Int) (w : World) :
  Calls Tryz.prog 289 #[.int .i64 a] w fun e w' => e = .returned (.bool false) /\ w = w' := by
 go_enter Tryz.func289, Tryz.ntmps289;go_wp2;go_ret;exact ⟨by simp, rfl⟩
theorem Jq5 (a b : ByteArray) (w : World) :
  Calls Tryz.prog 271 #[.string a, .string b] w fun e w' => e = .returned (.int .i64 (cmpS a.toList b.toList)) /\ w = w' := by
 go_enter Tryz.func271, Tryz.ntmps271;go_wp2_with (go_at_call 298; refine (J2i _ _).mono ?_; rintro e w' ⟨rfl, rfl⟩)
 all_goals
  go_ret;exact ⟨Jbl (by simp [cmpS, *]), rfl⟩
theorem Jq6 (a b : Int) (w : World) :
  Calls Tryz.prog 272 #[.int .i64 a, .int .i64 b] w fun e w' => e = .returned (.int .i64 (cmpI a b)) /\ w = w' := by
 go_enter Tryz.func272, Tryz.ntmps272;go_wp2_with (go_at_call 289; refine (J2j _ _).mono ?_; rintro e w' ⟨rfl, rfl⟩)
 all_goals
  go_ret;exact ⟨Jbl (by unfold cmpI; first | rw [if_pos (by assumption)] | rw [if_neg (by omega), if_pos (by assumption)] | rw [if_neg (by omega), if_neg (by omega)]), rfl⟩
def orI (a b : Int) : Int := if a = 0 then b else a
theorem J10 (a b : Int) (g : Nat) (w : World) (h0 : w.cell? ⟨g, 0, none⟩ = some (.int .i64 a)) (h1 : w.cell? ⟨g, 1, none⟩ = some (.int .i64 b)) :
  Calls Tryz.prog 270 #[.slice (some ⟨g, 0, none⟩) 2 2] w fun e w' => e = .returned (.int .i64 (orI a b)) /\ w = w' := by
 go_enter Tryz.func270, Tryz.ntmps270;go_wp2;refine wp_loop_rounds 3 ?_;rw [rounds_succ];go_wp2
 all_goals try (rw [rounds_succ]; go_wp2)
 all_goals try (rw [rounds_succ]; go_wp2)
 all_goals
  go_ret;exact ⟨Jbl (by simp [orI]; simp_all), rfl⟩
theorem Jpw (a b : ByteArray) (x y : Int) (r s t u v r' s' t' u' v' : Value) (w : World) :
  Calls Tryz.prog 229 #[.agg #[.string a, .int .i64 x, r, s, t, u, v], .agg #[.string b, .int .i64 y, r', s', t', u', v']] w fun e w' => e = .returned (.int .i64 (cmpR a.toList x b.toList y)) /\ Below w.heap.size w w' := by
 go_enter Tryz.func229, Tryz.ntmps229;go_wp2
 go_region_held3 (fun w' => w'.cell? ⟨w.heap.size, 0, none⟩ = some (.string a) /\ w'.cell? ⟨w.heap.size, 1, none⟩ = some (.int .i64 x) /\ w'.cell? ⟨w.heap.size + 1, 0, none⟩ = some (.string b) /\ w'.cell? ⟨w.heap.size + 1, 1, none⟩ = some (.int .i64 y))
  (first | assumption | (simp [go_sem, World.cell?_alloc_past]))
  (first
    | (go_at_call 271; refine (Jq5 _ _ _).mono ?_; rintro e w' ⟨rfl, rfl⟩)
    | (go_at_call 272; refine (Jq6 _ _ _).mono ?_; rintro e w' ⟨rfl, rfl⟩)
    | (go_at_call 270; refine (J10 (cmpS a.toList b.toList) (cmpI x y) _ _ (by simp [go_sem]) (by simp [go_sem])).mono ?_; rintro e w' ⟨rfl, rfl⟩))
 go_wp2;go_ret;exact ⟨rfl, by repeat (first | exact Below.refl _ _ | refine Below.drew ?_ | refine Below.alloc ?_ (by simp; try omega) _)⟩
theorem Jb5 (A : Option Addr) (n c : Nat) (ss : List ByteArray) (w : World) (hn : n <= maxLen) (hl : ss.length = n) (hs : ∀ s ∈ ss, s.size <= maxLen)
  (hr : 0 < n -> ∃ b off, A = some ⟨b, off, none⟩ /\ ∀ i (h : i < ss.length), w.cell? ⟨b, off + i, none⟩ = some (.string ss[i])) :
  Calls Tryz.prog 112 #[.slice A n c] w fun e w' => e = .returned (.bool (ss.all fun s => Jak s.toList)) /\ w = w' := by
 unfold maxLen at hn hs;go_enter Tryz.func112, Tryz.ntmps112;go_wp2;go_loop [8] (fun i => ∃ k : Nat, k <= n /\ i = .int .i64 k /\ ((ss.take k).all fun s => Jak s.toList) = true) (fun i => n - (intOf i).toNat)
 case atStart => exact ⟨0, Nat.zero_le _, rfl, rfl⟩
 case round =>
  obtain ⟨k, hk, rfl, hall⟩ := hrel;have HA := zI hall;clear hall;by_cases hlt : k < n
  · obtain ⟨b, off, rfl, hc⟩ := hr (by omega)
    have hcell := hc k (by omega);have hsz := hs ss[k] (List.getElem_mem _);have hts : Hid (ss.take (k + 1) = ss.take k ++ [ss[k]]) := List.take_succ_eq_append_getElem (by omega);clear hc hs;have hmem : ss[k] ∈ ss := List.getElem_mem _;generalize ss[k]'(by omega) = s at *;by_cases h1 : s.size < 1
    · have hf := Jho (fun s : ByteArray => Jak s.toList) ss s hmem (Jd9 s (.inl h1))
      have HF := zI hf;clear hf;go_wp2;go_ret;exact ⟨Jag HF.out.symm, rfl⟩
    · by_cases h2 : 15 < s.size
      · have hf := Jho (fun s : ByteArray => Jak s.toList) ss s hmem (Jd9 s (.inr h2))
        have HF := zI hf;clear hf;go_wp2;go_ret;exact ⟨Jag HF.out.symm, rfl⟩
      · go_wp2
        go_loop [22] (fun i => ∃ j : Nat, j <= s.size /\ i = .int .i64 j /\ Ja9 (s.toList.take j) = true) (fun i => s.size - (intOf i).toNat)
        case atStart => exact ⟨0, Nat.zero_le _, rfl, rfl⟩
        case round =>
         obtain ⟨j, hj, rfl, hpre⟩ := hrel;have HP := zI hpre;clear hpre;by_cases hjs : j < s.size
         · have hnext := zI (Jh5 s j hjs)
           have hu : s[j].toNat <= 255 := by have := s[j].toNat_lt; omega
           cases hb : Jc6 s[j].toNat
           · have HF := zI (Jho (fun s : ByteArray => Jak s.toList) ss s hmem (Jnh s (Jir s j hjs hb)))
             go_wp2_with (go_at_call 181; refine (Jdx _ _ (by omega) (by omega)).mono ?_; rintro e w' ⟨rfl, rfl⟩)
             go_ret;exact ⟨Jag HF.out.symm, rfl⟩
           · have HN : Hid (Ja9 (s.toList.take (j + 1)) = true) := by rw [hnext.out, HP.out, hb]; rfl
             go_wp2_with (go_at_call 181; refine (Jdx _ _ (by omega) (by omega)).mono ?_; rintro e w' ⟨rfl, rfl⟩)
             go_round
             case rel => exact ⟨j + 1, by omega, by go_num, HN.out⟩
             case measure => simp [intOf]; omega
         · have HV : Hid (Jak s.toList = true) := Jq1 s (by omega) (by omega) (by rw [<- HP.out, List.take_of_length_le (by rw [Jab]; omega)])
           go_wp2;go_round
           case rel => exact ⟨k + 1, by omega, by go_num, Jq2 (fun s : ByteArray => Jak s.toList) ss k s hts.out HA.out HV.out⟩
           case measure => simp [intOf]; omega
  · go_wp2
    go_ret;exact ⟨Jag (by rw [<- HA.out, List.take_of_length_le (by omega)]), rfl⟩
open Go.Maps
def onB (t e : Int) : Bool := decide (1 <= e /\ t.tmod e = 0)
theorem Jko (t e : Int) (w : World) (_ : -9223372036854775808 <= t /\ t <= 9223372036854775807) (_ : -9223372036854775808 <= e /\ e <= 9223372036854775807) : Calls Tryz.prog 56 #[.int .i64 t, .int .i64 e] w fun x w' => x = .returned (.bool (onB t e)) /\ w = w' := by
 by_cases h1 : 1 <= e
 · have hne : e ≠ 0 := by omega
   have HF := zI (show onB t e = decide (t.tmod e = 0) from by unfold onB; simp [h1]);go_enter Tryz.func56, Tryz.ntmps56;go_wp2;go_ret;exact ⟨Jag (by rw [HF.out]; first | rfl | simp | (rw [Bool.eq_iff_iff]; simp)), rfl⟩
 · have HF := zI (show onB t e = false from decide_eq_false (by omega))
   have hd : decide (1 <= e) = false := decide_eq_false h1;go_enter Tryz.func56, Tryz.ntmps56;go_wp2;go_ret;exact ⟨Jag HF.out.symm, rfl⟩
theorem one_cell {w : World} {b : Nat} {s : ByteArray} (h : w.cell? ⟨b, 0, none⟩ = some (.string s)) : ∀ i (hi : i < [s].length), w.cell? ⟨b, 0 + i, none⟩ = some (.string ([s][i])) := by
 intro i hi;have : i = 0 := by simpa using hi
 subst this;exact h
theorem Je0 {w : World} {o : Obj} {a : Addr} {v : Value} (h : w.cell? a = some v) : (w.alloc o).cell? a = some v := (World.grownBy_alloc w o none).cell h (by simp)
def Jas (ev : Int) (r : Rc) : Bool := Jak r.nm.toList && decide (0 <= r.st) && onB r.st ev && Jb3 r.ag
structure Rcs (w : World) (A : Option Addr) (n : Nat) (l : List Rc) : Prop where
 sl : Sl w A (l.flatMap Rc.cells)
 len : l.length = n
 n_le : n <= maxLen
 nm : ∀ r ∈ l, r.nm.size <= maxLen
 st : ∀ r ∈ l, (Lit.int .i64 r.st).wf = true
 ok : ∀ r ∈ l, r.ag.Ok
theorem Ju3 (l : List Rc) (j : Nat) (hj : j < l.length) (q : Nat) (hq : q < 7) : (l.flatMap Rc.cells)[j * 7 + q]? = l[j].cells[q]? := by
 induction l generalizing j with
 | nil => simp at hj
 | cons a r ih =>
   rw [List.flatMap_cons];cases j with
   | zero =>
     rw [List.getElem?_append_left (by show 0 * 7 + q < 7; omega)]; simp
   | succ j =>
     rw [List.getElem?_append_right (by show 7 <= _; omega)];have : (j + 1) * 7 + q - a.cells.length = j * 7 + q := by show (j + 1) * 7 + q - 7 = _; omega
     rw [this, ih j (by simp at hj; omega)]; rfl
structure Jbu (w : World) (b off : Nat) (r : Rc) : Prop where
 c0 : w.cell? ⟨b, off, none⟩ = some (.string r.nm)
 c1 : w.cell? ⟨b, off + 1, none⟩ = some (.int .i64 r.st)
 c2 : w.cell? ⟨b, off + 2, none⟩ = some (.int .i64 r.ag.c)
 c3 : w.cell? ⟨b, off + 3, none⟩ = some (.int .i64 r.ag.hi)
 c4 : w.cell? ⟨b, off + 4, none⟩ = some (.int .u64 r.ag.lo)
 c5 : w.cell? ⟨b, off + 5, none⟩ = some (.int .i64 r.ag.mn)
 c6 : w.cell? ⟨b, off + 6, none⟩ = some (.int .i64 r.ag.mx)
theorem Rcs.get {w : World} {A : Option Addr} {n : Nat} {l : List Rc} (h : Rcs w A n l) {j : Nat} (hj : j < l.length) : ∃ b off, A = some ⟨b, off, none⟩ /\ b < w.heap.size /\ Jbu w b (off + j * 7) l[j] := by
 have hne : l.flatMap Rc.cells ≠ [] := by
  cases l with
  | nil => simp at hj
  | cons a r => simp [Rc.cells]
 obtain ⟨b, off, e, hb, hc⟩ := h.sl.at_ hne;have g := fun q hq => Ju3 l j hj q hq;have c0 := hc (j * 7 + 0) _ (g 0 (by omega));have c1 := hc (j * 7 + 1) _ (g 1 (by omega));have c2 := hc (j * 7 + 2) _ (g 2 (by omega));have c3 := hc (j * 7 + 3) _ (g 3 (by omega));have c4 := hc (j * 7 + 4) _ (g 4 (by omega));have c5 := hc (j * 7 + 5) _ (g 5 (by omega));have c6 := hc (j * 7 + 6) _ (g 6 (by omega));rw [<- Nat.add_assoc] at c1 c2 c3 c4 c5 c6;exact ⟨b, off, e, hb, c0, c1, c2, c3, c4, c5, c6⟩
theorem Jbu.keep {w w' : World} {b off : Nat} {r : Rc} {row : Option Nat} (h : Jbu w b off r) (hg : w.grownBy w' row) (hne : some b ≠ row) : Jbu w' b off r :=
 ⟨hg.cell h.c0 hne, hg.cell h.c1 hne, hg.cell h.c2 hne, hg.cell h.c3 hne, hg.cell h.c4 hne, hg.cell h.c5 hne, hg.cell h.c6 hne⟩
theorem Jbu.new (w : World) (r : Rc) : Jbu (w.alloc (.cells #[.string r.nm, .int .i64 r.st, .int .i64 r.ag.c, .int .i64 r.ag.hi, .int .u64 r.ag.lo, .int .i64 r.ag.mn, .int .i64 r.ag.mx] 169)) w.heap.size 0 r := by
 have e := heap_alloc_new w (.cells #[.string r.nm, .int .i64 r.st, .int .i64 r.ag.c, .int .i64 r.ag.hi, .int .u64 r.ag.lo, .int .i64 r.ag.mn, .int .i64 r.ag.mx] 169);exact ⟨cell_of_row _ _ 0 _ _ _ e, cell_of_row _ _ 1 _ _ _ e, cell_of_row _ _ 2 _ _ _ e, cell_of_row _ _ 3 _ _ _ e, cell_of_row _ _ 4 _ _ _ e, cell_of_row _ _ 5 _ _ _ e, cell_of_row _ _ 6 _ _ _ e⟩
theorem MapAt.nocell {w : World} {mm : Nat} {l : List Rc} (h : MapAt w mm l) (o : Nat) : w.cell? ⟨mm, o, none⟩ = none := by
 obtain ⟨D, ⟨es, c, h1, _⟩, _⟩ := h.own;simp [World.cell?, h1]
theorem Rcs.keep {w w' : World} {A : Option Addr} {n mm : Nat} {l k : List Rc} (h : Rcs w A n l) (hm : MapAt w mm k) (hg : w.grownBy w' (some mm)) : Rcs w' A n l := by
 refine ⟨⟨fun hne => ?_⟩, h.len, h.n_le, h.nm, h.st, h.ok⟩;obtain ⟨b, off, e, hb, hc⟩ := h.sl.at_ hne
 have hbm : b ≠ mm := by
  intro e2;subst e2;cases hx : l.flatMap Rc.cells with
  | nil => exact hne hx
  | cons u r =>
    have := hc 0 u (by rw [hx]; rfl);rw [hm.nocell] at this; cases this
 exact ⟨b, off, e, Nat.lt_of_lt_of_le hb hg.size, fun j u hu => hg.cell (hc j u hu) (fun e3 => hbm (by injection e3))⟩
def agAt (l : List Rc) (s : ByteArray) (n : Int) : Ag := match Jid l s n with | some r => r.ag | none => Ag.zero
open Classical in
noncomputable def addR (ev : Int) (l : List Rc) (r : Rc) : List Rc := if Jas ev r = true then putR ⟨r.nm, r.st, Jbh [agAt l r.nm r.st, r.ag]⟩ l else l
noncomputable def addL (ev : Int) (l : List Rc) (rs : List Rc) : List Rc := rs.foldl (addR ev) l
def addN (ev : Int) (rs : List Rc) : Nat := rs.countP (Jas ev)
theorem Jno (ev : Int) (l rs : List Rc) (r : Rc) : addL ev l (rs ++ [r]) = addR ev (addL ev l rs) r := by simp [addL, List.foldl_append]
theorem Ju4 (ev : Int) (rs : List Rc) (r : Rc) : addN ev (rs ++ [r]) = addN ev rs + if Jas ev r = true then 1 else 0 := by
 unfold addN;rw [List.countP_append, List.countP_singleton]
theorem Jq7 {x : Rc} : ∀ {l : List Rc}, (putR x l).length <= l.length + 1
 | [] => by simp [putR]
 | y :: r => by
   unfold putR;split
   · simp
   · split
     · simp
     · have := Jq7 (x := x) (l := r)
       simp; omega
theorem Jzd {ev : Int} {l : List Rc} {r : Rc} : (addR ev l r).length <= l.length + 1 := by
 unfold addR;split
 · exact Jq7
 · omega
theorem Jih {ev : Int} {l : List Rc} : ∀ {rs : List Rc}, (addL ev l rs).length <= l.length + rs.length := by
 intro rs;obtain ⟨m, rfl⟩ : ∃ m : List Rc, rs = m.reverse := ⟨rs.reverse, by simp⟩
 induction m with
 | nil => simp [addL]
 | cons a r ih =>
   rw [List.reverse_cons, Jno];have := Jzd (ev := ev) (l := addL ev l r.reverse) (r := a);simp at ih ⊢; omega
theorem MapAt.look {w : World} {mm : Nat} {l : List Rc} (h : MapAt w mm l) {s : ByteArray} {n : Int} (hs : s.size <= maxLen) (hn : (Lit.int .i64 n).wf = true) :
  (Instr.lookup 215 (.map (some mm)) (Jes s n) false).run Tryz.prog w = .ok (agAt l s n).val w := by
 obtain ⟨D, hown, hrep⟩ := h.own;obtain ⟨v, ps, hrun, hv⟩ := hown.lookup Jdw Tryz.underlying215 (J2h w) (Jnl Ag.zero) (Jnj hs hn);rw [hrun];rw [hrep.at_ hs hn] at hv;obtain ⟨a, rfl, e⟩ := Jhp hv;unfold agAt;cases hf : Jid l s n with
 | none =>
   rw [hf] at e;rw [<- Jpu (Prod.mk.inj e).1]
 | some r =>
   rw [hf] at e;rw [<- Jpu (Prod.mk.inj e).1]
theorem MapAt.fit {w : World} {mm : Nat} {l : List Rc} (h : MapAt w mm l) (s : ByteArray) (n : Int) : (agAt l s n).Fit := by
 obtain ⟨D, hown, hrep⟩ := h.own;unfold agAt;cases hf : Jid l s n with
 | none => exact Ag.Fit.zero
 | some r => exact (hrep.ok r (Jfl hf).1).ag
theorem MapAt.store {w : World} {mm : Nat} {l : List Rc} (h : MapAt w mm l) {x : Rc} (hx : x.Ok) (hl : l.length < 1000000) :
  ∃ w', (Instr.mapUpdate 215 (.map (some mm)) (Jes x.nm x.st) x.ag.val).run Tryz.prog w = .ok () w' /\ MapAt w' mm (putR x l) /\ w.grownBy w' (some mm) := by
 obtain ⟨D, hown, hrep⟩ := h.own;obtain ⟨w', hrun, r1, r2⟩ := hown.store Jdw Tryz.underlying215 (by unfold maxLen; omega) (Jnj hx.nm hx.st) (Jnl x.ag);exact ⟨w', hrun, MapAt.mk' r1 (hrep.put hx), r2.grown⟩
theorem J2k {g : Nat} {ev : Int} (r : Rc) (w : World) (c0 : w.cell? ⟨g, 0, none⟩ = some (.int .i64 ev)) (hs : r.nm.size <= maxLen) (ht : -9223372036854775808 <= r.st /\ r.st <= 9223372036854775807) (he : -9223372036854775808 <= ev /\ ev <= 9223372036854775807) (hv : Jak r.nm.toList = false) : Calls Tryz.prog 165 #[.pointer (some ⟨g, 0, none⟩), r.val] w fun e w' => e = .returned (.bool (Jas ev r)) /\ Below w.heap.size w w' := by
 have hlt := World.block_lt_of_cell? w _ c0;simp only at hlt;have HS := zI hs;have HT : Hid (_ /\ _) := zI ⟨ht, he⟩;clear hs;have HV := zI (show ([r.nm].all fun s => Jak s.toList) = false from by simp [hv]);have HF := zI (show Jas ev r = false from by unfold Jas; simp [hv]);clear hv;go_enter Tryz.func165, Tryz.ntmps165;go_wp2
 first
  | (go_region_with (first
      | (go_at_call 112; refine (Jb5 (some ⟨_, 0, none⟩) 1 1 [r.nm] _ (by decide) rfl (by simpa using HS.out) (fun _ => ⟨_, 0, rfl, one_cell (by simp [go_sem])⟩)).mono ?_; rw [HV.out]; rintro e w' ⟨rfl, rfl⟩)
      | (go_at_call 56; refine (Jko r.st ev _ HT.out.1 HT.out.2).mono ?_; rw [HO.out]; rintro e w' ⟨rfl, rfl⟩)
      | (go_at_call 226; refine (Jbj r.ag _).mono ?_; rw [HG.out]; rintro e w' ⟨rfl, rfl⟩)))
  | fail
 all_goals
  go_wp2;go_ret;exact ⟨Jag HF.out.symm, by repeat (first | exact Below.refl _ _ | refine Below.drew ?_ | refine Below.alloc ?_ (by simp; try omega) _)⟩
theorem J2l {g : Nat} {ev : Int} (r : Rc) (w : World) (c0 : w.cell? ⟨g, 0, none⟩ = some (.int .i64 ev)) (hs : r.nm.size <= maxLen) (ht : -9223372036854775808 <= r.st /\ r.st <= 9223372036854775807) (he : -9223372036854775808 <= ev /\ ev <= 9223372036854775807) (hv : Jak r.nm.toList = true) (h0 : ¬ 0 <= r.st) : Calls Tryz.prog 165 #[.pointer (some ⟨g, 0, none⟩), r.val] w fun e w' => e = .returned (.bool (Jas ev r)) /\ Below w.heap.size w w' := by
 have hlt := World.block_lt_of_cell? w _ c0;simp only at hlt;have HS := zI hs;have HT : Hid (_ /\ _) := zI ⟨ht, he⟩;clear hs;have HV := zI (show ([r.nm].all fun s => Jak s.toList) = true from by simp [hv]);have HF := zI (show Jas ev r = false from by unfold Jas; simp [h0]);have hd : decide (0 <= r.st) = false := decide_eq_false h0;clear hv;go_enter Tryz.func165, Tryz.ntmps165;go_wp2
 first
  | (go_region_with (first
      | (go_at_call 112; refine (Jb5 (some ⟨_, 0, none⟩) 1 1 [r.nm] _ (by decide) rfl (by simpa using HS.out) (fun _ => ⟨_, 0, rfl, one_cell (by simp [go_sem])⟩)).mono ?_; rw [HV.out]; rintro e w' ⟨rfl, rfl⟩)
      | (go_at_call 56; refine (Jko r.st ev _ HT.out.1 HT.out.2).mono ?_; rw [HO.out]; rintro e w' ⟨rfl, rfl⟩)
      | (go_at_call 226; refine (Jbj r.ag _).mono ?_; rw [HG.out]; rintro e w' ⟨rfl, rfl⟩)))
  | fail
 all_goals
  go_wp2;go_ret;exact ⟨Jag HF.out.symm, by repeat (first | exact Below.refl _ _ | refine Below.drew ?_ | refine Below.alloc ?_ (by simp; try omega) _)⟩
theorem J2m {g : Nat} {ev : Int} (r : Rc) (w : World) (c0 : w.cell? ⟨g, 0, none⟩ = some (.int .i64 ev)) (hs : r.nm.size <= maxLen) (ht : -9223372036854775808 <= r.st /\ r.st <= 9223372036854775807) (he : -9223372036854775808 <= ev /\ ev <= 9223372036854775807) (hv : Jak r.nm.toList = true) (h0 : 0 <= r.st) (ho : onB r.st ev = false) : Calls Tryz.prog 165 #[.pointer (some ⟨g, 0, none⟩), r.val] w fun e w' => e = .returned (.bool (Jas ev r)) /\ Below w.heap.size w w' := by
 have hlt := World.block_lt_of_cell? w _ c0;simp only at hlt;have HS := zI hs;have HT : Hid (_ /\ _) := zI ⟨ht, he⟩;clear hs;have HV := zI (show ([r.nm].all fun s => Jak s.toList) = true from by simp [hv]);have HO := zI ho;have HF := zI (show Jas ev r = false from by unfold Jas; simp [ho]);clear ho hv;go_enter Tryz.func165, Tryz.ntmps165;go_wp2
 first
  | (go_region_with (first
      | (go_at_call 112; refine (Jb5 (some ⟨_, 0, none⟩) 1 1 [r.nm] _ (by decide) rfl (by simpa using HS.out) (fun _ => ⟨_, 0, rfl, one_cell (by simp [go_sem])⟩)).mono ?_; rw [HV.out]; rintro e w' ⟨rfl, rfl⟩)
      | (go_at_call 56; refine (Jko r.st ev _ HT.out.1 HT.out.2).mono ?_; rw [HO.out]; rintro e w' ⟨rfl, rfl⟩)
      | (go_at_call 226; refine (Jbj r.ag _).mono ?_; rw [HG.out]; rintro e w' ⟨rfl, rfl⟩)))
  | fail
 all_goals
  go_wp2;go_ret;exact ⟨Jag HF.out.symm, by repeat (first | exact Below.refl _ _ | refine Below.drew ?_ | refine Below.alloc ?_ (by simp; try omega) _)⟩
theorem J2n {g : Nat} {ev : Int} (r : Rc) (w : World) (c0 : w.cell? ⟨g, 0, none⟩ = some (.int .i64 ev)) (hs : r.nm.size <= maxLen) (ht : -9223372036854775808 <= r.st /\ r.st <= 9223372036854775807) (he : -9223372036854775808 <= ev /\ ev <= 9223372036854775807) (hv : Jak r.nm.toList = true) (h0 : 0 <= r.st) (ho : onB r.st ev = true) : Calls Tryz.prog 165 #[.pointer (some ⟨g, 0, none⟩), r.val] w fun e w' => e = .returned (.bool (Jas ev r)) /\ Below w.heap.size w w' := by
 have hlt := World.block_lt_of_cell? w _ c0;simp only at hlt;have HS := zI hs;have HT : Hid (_ /\ _) := zI ⟨ht, he⟩;clear hs;have HV := zI (show ([r.nm].all fun s => Jak s.toList) = true from by simp [hv]);cases hg : Jb3 r.ag
 · have HO := zI ho
   have HG := zI hg;have HF := zI (show Jas ev r = false from by unfold Jas; simp [hg]);clear ho hv hg;go_enter Tryz.func165, Tryz.ntmps165;go_wp2;have cD : ((w.alloc (.cells #[.string r.nm, .int .i64 r.st, .int .i64 r.ag.c, .int .i64 r.ag.hi, .int .u64 r.ag.lo, .int .i64 r.ag.mn, .int .i64 r.ag.mx] 169)).drew).cell? ⟨g, 0, none⟩ = some (.int .i64 ev) := Je0 c0
   go_region_held3 (fun w' => w'.cell? ⟨w.heap.size, 0, none⟩ = some (.string r.nm) /\ w'.cell? ⟨w.heap.size, 1, none⟩ = some (.int .i64 r.st) /\ w'.cell? ⟨w.heap.size, 2, none⟩ = some (.int .i64 r.ag.c) /\ w'.cell? ⟨w.heap.size, 3, none⟩ = some (.int .i64 r.ag.hi) /\ w'.cell? ⟨w.heap.size, 4, none⟩ = some (.int .u64 r.ag.lo) /\ w'.cell? ⟨w.heap.size, 5, none⟩ = some (.int .i64 r.ag.mn) /\ w'.cell? ⟨w.heap.size, 6, none⟩ = some (.int .i64 r.ag.mx) /\ w'.cell? ⟨g, 0, none⟩ = some (.int .i64 ev))
    (first | (go_split_ands; refine ⟨?_, ?_, ?_, ?_, ?_, ?_, ?_, ?_⟩ <;> first | assumption | (refine Je0 ?_; assumption) | (simp [go_sem]; done)))
    (first
      | (go_at_call 112; refine (Jb5 (some ⟨_, 0, none⟩) 1 1 [r.nm] _ (by decide) rfl (by simpa using HS.out) (fun _ => ⟨_, 0, rfl, one_cell (by simp [go_sem])⟩)).mono ?_; rw [HV.out]; rintro e w' ⟨rfl, rfl⟩)
      | (go_at_call 56; refine (Jko r.st ev _ HT.out.1 HT.out.2).mono ?_; rw [HO.out]; rintro e w' ⟨rfl, rfl⟩)
      | (go_at_call 226; refine (Jbj r.ag _).mono ?_; rw [HG.out]; rintro e w' ⟨rfl, rfl⟩))
   go_wp2;go_ret;exact ⟨Jag HF.out.symm, by repeat (first | exact Below.refl _ _ | refine Below.drew ?_ | refine Below.alloc ?_ (by simp; try omega) _)⟩
 · have HO := zI ho
   have HG := zI hg;have HF := zI (show Jas ev r = true from by unfold Jas; simp [hg, ho, hv, h0]);clear ho hv hg;go_enter Tryz.func165, Tryz.ntmps165;go_wp2;have cD : ((w.alloc (.cells #[.string r.nm, .int .i64 r.st, .int .i64 r.ag.c, .int .i64 r.ag.hi, .int .u64 r.ag.lo, .int .i64 r.ag.mn, .int .i64 r.ag.mx] 169)).drew).cell? ⟨g, 0, none⟩ = some (.int .i64 ev) := Je0 c0
   go_region_held3 (fun w' => w'.cell? ⟨w.heap.size, 0, none⟩ = some (.string r.nm) /\ w'.cell? ⟨w.heap.size, 1, none⟩ = some (.int .i64 r.st) /\ w'.cell? ⟨w.heap.size, 2, none⟩ = some (.int .i64 r.ag.c) /\ w'.cell? ⟨w.heap.size, 3, none⟩ = some (.int .i64 r.ag.hi) /\ w'.cell? ⟨w.heap.size, 4, none⟩ = some (.int .u64 r.ag.lo) /\ w'.cell? ⟨w.heap.size, 5, none⟩ = some (.int .i64 r.ag.mn) /\ w'.cell? ⟨w.heap.size, 6, none⟩ = some (.int .i64 r.ag.mx) /\ w'.cell? ⟨g, 0, none⟩ = some (.int .i64 ev))
    (first | (go_split_ands; refine ⟨?_, ?_, ?_, ?_, ?_, ?_, ?_, ?_⟩ <;> first | assumption | (refine Je0 ?_; assumption) | (simp [go_sem]; done)))
    (first
      | (go_at_call 112; refine (Jb5 (some ⟨_, 0, none⟩) 1 1 [r.nm] _ (by decide) rfl (by simpa using HS.out) (fun _ => ⟨_, 0, rfl, one_cell (by simp [go_sem])⟩)).mono ?_; rw [HV.out]; rintro e w' ⟨rfl, rfl⟩)
      | (go_at_call 56; refine (Jko r.st ev _ HT.out.1 HT.out.2).mono ?_; rw [HO.out]; rintro e w' ⟨rfl, rfl⟩)
      | (go_at_call 226; refine (Jbj r.ag _).mono ?_; rw [HG.out]; rintro e w' ⟨rfl, rfl⟩))
   go_wp2;go_ret;exact ⟨Jag HF.out.symm, by repeat (first | exact Below.refl _ _ | refine Below.drew ?_ | refine Below.alloc ?_ (by simp; try omega) _)⟩
theorem Jnp {g : Nat} {ev : Int} (r : Rc) (w : World) (c0 : w.cell? ⟨g, 0, none⟩ = some (.int .i64 ev)) (hs : r.nm.size <= maxLen) (ht : -9223372036854775808 <= r.st /\ r.st <= 9223372036854775807) (he : -9223372036854775808 <= ev /\ ev <= 9223372036854775807) : Calls Tryz.prog 165 #[.pointer (some ⟨g, 0, none⟩), r.val] w fun e w' => e = .returned (.bool (Jas ev r)) /\ Below w.heap.size w w' := by
 cases hv : Jak r.nm.toList
 · exact J2k r w c0 hs ht he hv
 · by_cases h0 : 0 <= r.st
   · cases ho : onB r.st ev
     · exact J2m r w c0 hs ht he hv h0 ho
     · exact J2n r w c0 hs ht he hv h0 ho
   · exact J2l r w c0 hs ht he hv h0
end Go.Proofs.YtalkkhafcfhglaaGreatDoor
