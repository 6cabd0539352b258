/-
  Several texts in one: Kset, StrMap, Pmap.
-/
import Derived.Maps.Views
import Derived.Maps.StringElems
import Derived.Test.YtalkkhafcfhglaaGreatDoorQ23
set_option maxRecDepth 100000
set_option maxHeartbeats 4000000
namespace Go.Proofs.YtalkkhafcfhglaaGreatDoor
open Go.RowKit Go.Maps
structure KSet (w : World) (k : TypeId) (b : Nat) (ks : List Lit) : Prop where
 own : ∃ D : DataW Unit, w.ownsMap Tryz.prog k (unitElem (H := Unit)) b ks.length D /\ Maps.size D = ks.length /\ ∀ l, Maps.has D l = true -> l ∈ ks
section
variable {w w' : World} {k : TypeId} {b : Nat} {ks : List Lit}
theorem KSet.lt (h : KSet w k b ks) : b < w.heap.size := by obtain ⟨D, h1, _⟩ := h.own; exact h1.lt
theorem KSet.grown {row : Option Nat} (h : KSet w k b ks) (hg : w.grownBy w' row) (hne : some b ≠ row) : KSet w' k b ks := by
 obtain ⟨D, h1, h2⟩ := h.own; exact ⟨D, h1.kept hg hne, h2⟩
theorem KSet.below (h : KSet w k b ks) (hb : Below w.heap.size w w') : KSet w' k b ks := h.grown (Jaa hb none) (by simp)
theorem KSet.made (w : World) (k : TypeId) : KSet (w.alloc (.map #[] 0)) k w.heap.size [] := ⟨.map [], World.ownsMap_made w _ _ _, by rw [Maps.size_eq]; rfl, fun l h => by rw [Maps.has_eq] at h; simp at h⟩
theorem Jr8 {ops : Array Oper} {rest : List Oper} {o : Oper} {a : Act} {Q : Exit -> Act -> World -> Prop} {t e : TypeId} (hg : o.guard = none) (m x v : Operand) (hop : o.op = Op.mapUpdate t m x v) (K : Keyed Tryz.prog k) (ht : Tryz.prog.underlying t = some (.map k e))
  (hm : a.eval m = .map (some b)) (h : KSet w k b ks) (hn : ks.length < 1000000) (key : Value) (kl : Lit) (hx : a.eval x = key) (hv : a.eval v = .agg #[]) (hkey : keyOf Tryz.prog k key = some kl) (hne : kl ∉ ks)
  (hK : ∀ w', KSet w' k b (ks ++ [kl]) -> w.grownBy w' (some b) -> wpList Tryz.prog ops Q rest (a.put o.dst undef) w') : wpList Tryz.prog ops Q (o :: rest) a w := by
 obtain ⟨D, h1, h2, h3⟩ := h.own
 have hh : Maps.has D kl = false := by
  cases e : Maps.has D kl with
  | false => rfl
  | true => exact absurd (h3 _ e) hne
 refine wpList_mapUpdate_in w hg m x v t hop k e K ht _ b _ D hm h1 (by unfold maxLen; omega) key (.agg #[]) kl hx hv hkey (.agg []) [] unitElem_mk (fun w' r1 r2 => hK w' ⟨D.put kl (.agg []), ?_, ?_, fun l hl => ?_⟩ r2.grown)
 · rw [List.length_append]; exact r1
 · rw [Maps.size_put (h1.tidy K), hh, List.length_append]; simp [h2]
 · by_cases e : l = kl
   · rw [e]; simp
   · rw [Maps.has_put_other e] at hl
     exact List.mem_append_left _ (h3 _ hl)
theorem KSet.len (h : KSet w k b ks) {t e : TypeId} (ht : Tryz.prog.underlying t = some (.map k e)) (ty : TypeId) : (Builtin.len_ #[t] ty #[.map (some b)]).run Tryz.prog w = .ok (.int .i64 (ks.length : Int)) w := by
 obtain ⟨D, h1, h2, _⟩ := h.own;rw [h1.len ht ty, h2]
end
def plit (a b : Int) : Lit := .string (keyBytes [.int .i64 a, .int .i64 b])
theorem Jr9 : Keyed Tryz.prog 349 := Keyed.of_law (deep_law_laid (by kernel_rfl) (m := 3) (by omega) (of_decide_eq_true (by kernel_rfl)) (by kernel_rfl) (by kernel_rfl))
theorem Jmy {a b : Int} (ha : (Lit.int .i64 a).wf = true) (hb : (Lit.int .i64 b).wf = true) : keyOf Tryz.prog 349 (.agg #[.int .i64 a, .int .i64 b]) = some (plit a b) := by
 obtain ⟨m, hm⟩ : ∃ m, Tryz.prog.types.size = m + 2 := by
  have h : 1 < Tryz.prog.types.size := of_decide_eq_true (by kernel_rfl);exact ⟨Tryz.prog.types.size - 2, by omega⟩
 have h1 : Tryz.prog.keyType 349 = true := by kernel_rfl
 have hc : Tryz.prog.cellsOf 349 = 2 := by kernel_rfl
 have c3 : Tryz.prog.cellsOf 3 = 1 := by kernel_rfl
 have h2 : (Value.agg #[.int .i64 a, .int .i64 b]).formed Tryz.prog 349 = true := by
  simp [Value.formed, Tryz.underlying349, hc]
 have h3 : Tryz.prog.keyLits (Tryz.prog.types.size + 1) 349 (Value.agg #[.int .i64 a, .int .i64 b]).cells.toList = some [.int .i64 a, .int .i64 b] := by
  rw [hm];simp [Program.keyLits, Value.cells, Tryz.underlying349, Tryz.underlying3, hc, c3, ha, hb, show List.range 2 = [0, 1] from rfl]
 unfold keyOf;rw [Tryz.underlying349];simp only [h1, h2, Bool.and_self, if_true, h3, Option.map_some];rfl
theorem J0v {a b c d : Int} (ha : (Lit.int .i64 a).wf = true) (hb : (Lit.int .i64 b).wf = true) (hc : (Lit.int .i64 c).wf = true) (hd : (Lit.int .i64 d).wf = true) (h : plit a b = plit c d) : a = c /\ b = d := by
 have h1 := Jmy ha hb;have h2 := Jmy hc hd;rw [<- h] at h2;have := Jr9.inj h1 h2
 simpa using this
structure RepS (D : DataW Unit) (f : Int -> Option ByteArray) : Prop where
 map : IsMap D
 at_ : ∀ k z, D.atKey (.int .i64 k) z = match f k with | some s => .lit (.string s.data.toList) | none => z
theorem RepS.nil : RepS (.map []) (fun _ => none) := ⟨isMap_empty, fun _ _ => rfl⟩
def setS (f : Int -> Option ByteArray) (k : Int) (s : ByteArray) : Int -> Option ByteArray := fun i => if i = k then some s else f i
theorem RepS.put {D : DataW Unit} {f : Int -> Option ByteArray} (h : RepS D f) (k : Int) (s : ByteArray) : RepS (D.put (.int .i64 k) (.lit (.string s.data.toList))) (setS f k s) := by
 refine ⟨h.map.put _ _, fun i z => ?_⟩;unfold setS;by_cases e : i = k
 · subst e
   rw [if_pos rfl, atKey_put_same h.map (by simp [WideAt.IsKeyLit])]
 · rw [if_neg e, atKey_put_other (by intro h; cases h; exact e rfl)]
   exact h.at_ i z
structure SMap (w : World) (b n : Nat) (f : Int -> Option ByteArray) : Prop where
 own : ∃ D : DataW Unit, w.ownsMap Tryz.prog 3 (plainElem Tryz.prog 9) b n D /\ RepS D f
section
variable {w w' : World} {b n : Nat} {f : Int -> Option ByteArray}
theorem SMap.lt (h : SMap w b n f) : b < w.heap.size := by obtain ⟨D, h1, _⟩ := h.own; exact h1.lt
theorem SMap.grown {row : Option Nat} (h : SMap w b n f) (hg : w.grownBy w' row) (hne : some b ≠ row) : SMap w' b n f := by
 obtain ⟨D, h1, h2⟩ := h.own; exact ⟨D, h1.kept hg hne, h2⟩
theorem SMap.keep (h : SMap w b n f) (hb : w'.heap[b]? = w.heap[b]?) : SMap w' b n f := by
 obtain ⟨D, ⟨es, c, h1, h3⟩, h2⟩ := h.own;exact ⟨D, ⟨es, c, hb.trans h1, h3⟩, h2⟩
theorem SMap.below (h : SMap w b n f) (hb : Below w.heap.size w w') : SMap w' b n f := h.keep (hb.block b h.lt)
theorem SMap.nocells (h : SMap w b n f) (cs : Array Value) (T : TypeId) (fr : Nat × Nat) : w.heap[b]? ≠ some (.cells cs T fr) := by
 obtain ⟨D, ⟨es, c, h1, _⟩, _⟩ := h.own;rw [h1];intro e;cases e
theorem SMap.made (w : World) : SMap (w.alloc (.map #[] 0)) w.heap.size 0 (fun _ => none) := ⟨_, World.ownsMap_made w _ _ _, RepS.nil⟩
theorem J0w (w : World) : (zeroValue 9).run Tryz.prog w = .ok (.string ByteArray.empty) w := by kernel_rfl
def Jqk (f : Int -> Option ByteArray) (k : Int) : Value := match f k with
 | some s => .tuple #[.string s, .bool true]
 | none => .tuple #[.string ByteArray.empty, .bool false]
theorem J3q {s t : ByteArray} (h : s.data.toList = t.data.toList) : s = t := by
 cases s; cases t
 simp at h;rw [h]
theorem SMap.look (h : SMap w b n f) {k : Int} (hk : (Lit.int .i64 k).wf = true) : (Instr.lookup 78 (.map (some b)) (.int .i64 k) true).run Tryz.prog w = .ok (Jqk f k) w := by
 obtain ⟨D, ⟨es, c, h1, F, hs, rfl⟩, hr⟩ := h.own;have hat0 := hr.at_ k;rcases Maps.fit_look true (int_keyed Tryz.underlying3) Tryz.underlying78 (J0w w) h1 F (keyOf_int_mk Tryz.underlying3 hk) with ⟨hrun, _, hat⟩ | ⟨e0, y, _, _, hrun, hRv, hat, _⟩
 · rw [hrun]
   have h2 := (hat (.lit (.bool true))).symm.trans (hat0 _);unfold Jqk;cases e : f k with
   | none => rfl
   | some s => rw [e] at h2; cases h2
 · rw [hrun]
   obtain ⟨s, e1, rfl, _⟩ := plainElem_string_inv Tryz.underlying9 hRv;have h2 := (hat (.lit (.bool true))).symm.trans (hat0 _);unfold Jqk;cases e : f k with
   | none => rw [e] at h2; cases h2
   | some t =>
     rw [e] at h2;have h3 : s.data.toList = t.data.toList := (by simpa using h2);rw [e1, J3q h3];rfl
end
def adr (o : Option (Nat × Nat)) : Option Addr := o.map fun p => ⟨p.1, p.2, none⟩
def Jwy (o : Option Addr) : Option (Option (Nat × Nat)) := match o with
 | none => some none
 | some ⟨b, off, none⟩ => some (some (b, off))
 | _ => none
theorem Jwz (o : Option (Nat × Nat)) : Jwy (adr o) = some o := by cases o <;> rfl
theorem Joy {o : Option Addr} {p : Option (Nat × Nat)} (h : Jwy o = some p) : o = adr p := by
 unfold Jwy at h;split at h
 · cases h; rfl
 · cases h; rfl
 · cases h
structure PRaw where
 id : Int
 t : Int
 s : Int
 p : Int
 o : Int
 A : Option (Nat × Nat)
 n : Nat
 c : Nat
 B : Option (Nat × Nat)
 k : Nat
 d : Nat
abbrev PRaw.cells (x : PRaw) : List Value := [.int .u64 x.id, .int .i64 x.t, .int .i64 x.s, .int .i64 x.p, .int .i64 x.o, .slice (adr x.A) x.n x.c, .slice (adr x.B) x.k x.d]
abbrev PRaw.val (x : PRaw) : Value := .agg #[.int .u64 x.id, .int .i64 x.t, .int .i64 x.s, .int .i64 x.p, .int .i64 x.o, .slice (adr x.A) x.n x.c, .slice (adr x.B) x.k x.d]
def PRaw.zero : PRaw := ⟨0, 0, 0, 0, 0, none, 0, 0, none, 0, 0⟩
def adrD (o : Option (Nat × Nat)) : DataW Unit := match o with
 | none => .nil
 | some p => .agg [.lit (.int .i64 p.1), .lit (.int .i64 p.2)]
theorem Jsa {a b : Option (Nat × Nat)} (h : adrD a = adrD b) : a = b := by
 cases a with
 | none => cases b with
   | none => rfl
   | some y => simp [adrD] at h
 | some x => cases b with
   | none => simp [adrD] at h
   | some y =>
     obtain ⟨x1, x2⟩ := x;obtain ⟨y1, y2⟩ := y;simp [adrD] at h;obtain ⟨h1, h2⟩ := h;have e1 : x1 = y1 := (by omega);have e2 : x2 = y2 := (by omega);rw [e1, e2]
def prD (x : PRaw) : DataW Unit := .agg [.lit (.int .u64 x.id), .lit (.int .i64 x.t), .lit (.int .i64 x.s), .lit (.int .i64 x.p), .lit (.int .i64 x.o), adrD x.A, .lit (.int .i64 x.n), .lit (.int .i64 x.c), adrD x.B, .lit (.int .i64 x.k), .lit (.int .i64 x.d)]
theorem Jw0 {x y : PRaw} (h : prD x = prD y) : x = y := by
 obtain ⟨a1, a2, a3, a4, a5, a6, a7, a8, a9, a10, a11⟩ := x;obtain ⟨b1, b2, b3, b4, b5, b6, b7, b8, b9, b10, b11⟩ := y;simp only [prD, DataW.agg.injEq, List.cons.injEq, DataW.lit.injEq, Lit.int.injEq, true_and, and_true, Int.natCast_inj] at h;obtain ⟨h1, h2, h3, h4, h5, h6, h7, h8, h9, h10, h11⟩ := h;rw [h1, h2, h3, h4, h5, Jsa h6, h7, h8, Jsa h9, h10, h11]
def Jha (v : Value) : Option (DataW Unit × List MemPlace) := match v with
 | .agg xs => match xs.toList with
   | [.int .u64 id, .int .i64 t, .int .i64 s, .int .i64 p, .int .i64 o, .slice A n c, .slice B k d] => match Jwy A, Jwy B with
     | some a, some b => some (prD ⟨id, t, s, p, o, a, n, c, b, k, d⟩, [])
     | _, _ => none
   | _ => none
 | _ => none
theorem Jjw (x : PRaw) : Jha x.val = some (prD x, []) := by
 unfold Jha PRaw.val;simp only [Jwz]
theorem Joz {v : Value} {z : DataW Unit × List MemPlace} (h : Jha v = some z) : ∃ x : PRaw, v = x.val /\ z = (prD x, []) := by
 unfold Jha at h;split at h
 · next xs =>
   split at h
   · next id t s p o A n c B k d e =>
     split at h
     · next a b ha hb =>
       cases h
       refine ⟨⟨id, t, s, p, o, a, n, c, b, k, d⟩, ?_, rfl⟩;show Value.agg xs = Value.agg _;rw [<- Joy ha, <- Joy hb]
       congr 1
       exact (show xs = xs.toList.toArray from by simp).trans (by rw [e])
     · cases h
   · cases h
 · cases h
theorem Jw1 (w : World) : (zeroValue 144).run Tryz.prog w = .ok PRaw.zero.val w := by kernel_rfl
theorem Jle : Keyed Tryz.prog 154 := Keyed.of_law (deep_law_laid (by kernel_rfl) (m := 3) (by omega) (of_decide_eq_true (by kernel_rfl)) (by kernel_rfl) (by kernel_rfl))
theorem Jlf {a b : Int} (ha : (Lit.int .i64 a).wf = true) (hb : (Lit.int .i64 b).wf = true) : keyOf Tryz.prog 154 (.agg #[.int .i64 a, .int .i64 b]) = some (plit a b) := by
 obtain ⟨m, hm⟩ : ∃ m, Tryz.prog.types.size = m + 2 := by
  have h : 1 < Tryz.prog.types.size := of_decide_eq_true (by kernel_rfl);exact ⟨Tryz.prog.types.size - 2, by omega⟩
 have h1 : Tryz.prog.keyType 154 = true := by kernel_rfl
 have hc : Tryz.prog.cellsOf 154 = 2 := by kernel_rfl
 have c3 : Tryz.prog.cellsOf 3 = 1 := by kernel_rfl
 have h2 : (Value.agg #[.int .i64 a, .int .i64 b]).formed Tryz.prog 154 = true := by
  simp [Value.formed, Tryz.underlying154, hc]
 have h3 : Tryz.prog.keyLits (Tryz.prog.types.size + 1) 154 (Value.agg #[.int .i64 a, .int .i64 b]).cells.toList = some [.int .i64 a, .int .i64 b] := by
  rw [hm];simp [Program.keyLits, Value.cells, Tryz.underlying154, Tryz.underlying3, hc, c3, ha, hb]
 unfold keyOf;rw [Tryz.underlying154];simp only [h1, h2, Bool.and_self, if_true, h3, Option.map_some];rfl
theorem Jdr {n : Nat} (h : n < 100) : (Lit.int .i64 (n : Int)).wf = true := Jbz (by omega)
structure RepP (D : DataW Unit) (f : Nat -> Nat -> Option PRaw) : Prop where
 map : IsMap D
 at_ : ∀ t s : Nat, t < 100 -> s < 100 -> ∀ z, D.atKey (plit (t : Int) (s : Int)) z = match f t s with | some x => prD x | none => z
 has : ∀ t s : Nat, t < 100 -> s < 100 -> Maps.has D (plit (t : Int) (s : Int)) = (f t s).isSome
theorem RepP.nil : RepP (.map []) (fun _ _ => none) := ⟨isMap_empty, fun _ _ _ _ _ => rfl, fun _ _ _ _ => by rw [Maps.has_eq]; rfl⟩
def setP (f : Nat -> Nat -> Option PRaw) (t s : Nat) (x : PRaw) : Nat -> Nat -> Option PRaw := fun i j => if i = t /\ j = s then some x else f i j
theorem Jql {a b c d : Nat} (ha : a < 100) (hb : b < 100) (hc : c < 100) (hd : d < 100) (h : ¬ (a = c /\ b = d)) : plit (a : Int) (b : Int) ≠ plit (c : Int) (d : Int) := by
 intro e;have := J0v (Jdr ha) (Jdr hb) (Jdr hc) (Jdr hd) e;omega
theorem RepP.put {D : DataW Unit} {f : Nat -> Nat -> Option PRaw} (h : RepP D f) (t s : Nat) (ht : t < 100) (hs : s < 100) (x : PRaw) : RepP (D.put (plit (t : Int) (s : Int)) (prD x)) (setP f t s x) := by
 refine ⟨h.map.put _ _, fun i j hi hj z => ?_, fun i j hi hj => ?_⟩
 · unfold setP
   by_cases e : i = t /\ j = s
   · obtain ⟨rfl, rfl⟩ := e
     rw [if_pos ⟨rfl, rfl⟩, atKey_put_same h.map (by simp [plit, WideAt.IsKeyLit])]
   · rw [if_neg e, atKey_put_other (Jql hi hj ht hs e)]
     exact h.at_ i j hi hj z
 · unfold setP
   by_cases e : i = t /\ j = s
   · obtain ⟨rfl, rfl⟩ := e
     rw [if_pos ⟨rfl, rfl⟩, Maps.has_put_same h.map (by simp [plit, WideAt.IsKeyLit])]; rfl
   · rw [if_neg e, Maps.has_put_other (Jql hi hj ht hs e)]
     exact h.has i j hi hj
structure PMap (w : World) (b n : Nat) (f : Nat -> Nat -> Option PRaw) : Prop where
 own : ∃ D : DataW Unit, w.ownsMap Tryz.prog 154 Jha b n D /\ RepP D f
section
variable {w w' : World} {b n : Nat} {f : Nat -> Nat -> Option PRaw}
theorem PMap.lt (h : PMap w b n f) : b < w.heap.size := by obtain ⟨D, h1, _⟩ := h.own; exact h1.lt
theorem PMap.keep (h : PMap w b n f) (hb : w'.heap[b]? = w.heap[b]?) : PMap w' b n f := by
 obtain ⟨D, ⟨es, c, h1, h3⟩, h2⟩ := h.own;exact ⟨D, ⟨es, c, hb.trans h1, h3⟩, h2⟩
theorem PMap.below (h : PMap w b n f) (hb : Below w.heap.size w w') : PMap w' b n f := h.keep (hb.block b h.lt)
theorem PMap.chg {G : Nat -> Prop} (h : PMap w b n f) (hc : Chg G w w') (hn : ¬ G b) : PMap w' b n f := h.keep (hc.block b h.lt hn)
theorem PMap.nocells (h : PMap w b n f) (cs : Array Value) (T : TypeId) (fr : Nat × Nat) : w.heap[b]? ≠ some (.cells cs T fr) := by
 obtain ⟨D, ⟨es, c, h1, _⟩, _⟩ := h.own;rw [h1];intro e;cases e
theorem PMap.made (w : World) : PMap (w.alloc (.map #[] 0)) w.heap.size 0 (fun _ _ => none) := ⟨_, World.ownsMap_made w _ _ _, RepP.nil⟩
def J46 (f : Nat -> Nat -> Option PRaw) (t s : Nat) : Value := match f t s with
 | some x => .tuple #[x.val, .bool true]
 | none => .tuple #[PRaw.zero.val, .bool false]
theorem PMap.look (h : PMap w b n f) {t s : Nat} (ht : t < 100) (hs : s < 100) : (Instr.lookup 44 (.map (some b)) (.agg #[.int .i64 (t : Int), .int .i64 (s : Int)]) true).run Tryz.prog w = .ok (J46 f t s) w := by
 obtain ⟨D, hown, hr⟩ := h.own;obtain ⟨v, ps, hrun, hv⟩ := hown.look_ok Jle Tryz.underlying44 (Jw1 w) (Jjw PRaw.zero) (Jlf (Jdr ht) (Jdr hs));rw [hrun, hr.has t s ht hs];rw [hr.at_ t s ht hs] at hv;obtain ⟨x, rfl, e⟩ := Joz hv;unfold J46;cases hf : f t s with
 | none =>
   rw [hf] at e;rw [<- Jw0 (Prod.mk.inj e).1]; rfl
 | some y =>
   rw [hf] at e;rw [<- Jw0 (Prod.mk.inj e).1]; rfl
theorem PMap.store (h : PMap w b n f) (hn : n < 1000000) {t s : Nat} (ht : t < 100) (hs : s < 100) (x : PRaw) :
  ∃ w', (Instr.mapUpdate 44 (.map (some b)) (.agg #[.int .i64 (t : Int), .int .i64 (s : Int)]) x.val).run Tryz.prog w = .ok () w' /\ PMap w' b (n + 1) (setP f t s x) /\ w.grownBy w' (some b) := by
 obtain ⟨D, hown, hr⟩ := h.own;obtain ⟨w', hrun, r1, r2⟩ := hown.store Jle Tryz.underlying44 (by unfold maxLen; omega) (Jlf (Jdr ht) (Jdr hs)) (Jjw x);exact ⟨w', hrun, ⟨_, r1, hr.put t s ht hs x⟩, r2.grown⟩
end
structure Pm where
 e : En
 l : List Rc
 A : Option (Nat × Nat)
 c : Nat
 B : Option (Nat × Nat)
 d : Nat
def Pm.raw (x : Pm) : PRaw := ⟨(x.e.id : Int), (x.e.tier : Int), (x.e.shard : Int), 0, (x.e.bl.length : Int), x.A, x.e.bl.length, x.c, x.B, x.l.length, x.d⟩
def Pm.cells (x : Pm) : List Value := x.raw.cells
def Pm.em (x : Pm) : Em := ⟨x.e, adr x.A, x.c⟩
structure PmAt (w : World) (F : Nat -> Prop) (x : Pm) : Prop where
 bl : Ints w .i64 (adr x.A) x.e.bl.length x.e.bl
 rc : Rcs w (adr x.B) x.l.length x.l
 inA : AIn F (adr x.A)
 inB : AIn F (adr x.B)
structure Jf3 (w : World) (F : Nat -> Prop) (A : Option Addr) (n : Nat) (ps : List Pm) : Prop where
 sl : Sl w A (ps.flatMap Pm.cells)
 len : ps.length = n
 row : ∀ p ∈ ps, PmAt w F p
 inl : AIn F A
theorem Jo0 (x : Pm) : x.cells.length = 7 := rfl
theorem Jw2 (l : List Pm) (j : Nat) (hj : j < l.length) (q : Nat) (hq : q < 7) : (l.flatMap Pm.cells)[j * 7 + q]? = l[j].cells[q]? := by
 induction l generalizing j with
 | nil => simp at hj
 | cons r s ih =>
   rw [List.flatMap_cons];cases j with
   | zero =>
     rw [List.getElem?_append_left (by rw [Jo0]; omega)]
     simp
   | succ j =>
     rw [List.getElem?_append_right (by rw [Jo0]; omega), Jo0, show (j + 1) * 7 + q - 7 = j * 7 + q from by omega, ih j (by simpa using hj)];rfl
theorem Jw3 (l : List Pm) : (l.flatMap Pm.cells).length = l.length * 7 := by
 induction l with
 | nil => rfl
 | cons a r ih => rw [List.flatMap_cons, List.length_append, ih, Jo0, List.length_cons]; omega
theorem Jw4 (l : List Pm) : ∀ u ∈ l.flatMap Pm.cells, u.oneCell' = true := by
 intro u hu;obtain ⟨r, _, hr⟩ := List.mem_flatMap.1 hu;simp [Pm.cells, PRaw.cells] at hr;rcases hr with rfl | rfl | rfl | rfl | rfl | rfl | rfl <;> rfl
structure Jw5 (w : World) (b off : Nat) (x : PRaw) : Prop where
 c0 : w.cell? ⟨b, off, none⟩ = some (.int .u64 x.id)
 c1 : w.cell? ⟨b, off + 1, none⟩ = some (.int .i64 x.t)
 c2 : w.cell? ⟨b, off + 2, none⟩ = some (.int .i64 x.s)
 c3 : w.cell? ⟨b, off + 3, none⟩ = some (.int .i64 x.p)
 c4 : w.cell? ⟨b, off + 4, none⟩ = some (.int .i64 x.o)
 c5 : w.cell? ⟨b, off + 5, none⟩ = some (.slice (adr x.A) x.n x.c)
 c6 : w.cell? ⟨b, off + 6, none⟩ = some (.slice (adr x.B) x.k x.d)
section
variable {w w' : World} {F G : Nat -> Prop} {A : Option Addr} {n : Nat} {ps : List Pm} {x : Pm}
theorem PmAt.chg (h : PmAt w F x) (hc : Chg G w w') (hd : Dj F G) : PmAt w' F x := ⟨h.bl.chg hc (h.inA.dj hd), h.rc.chg hc (h.inB.dj hd), h.inA, h.inB⟩
theorem PmAt.below (h : PmAt w F x) (hb : Below w.heap.size w w') : PmAt w' F x := ⟨h.bl.below hb, h.rc.below hb, h.inA, h.inB⟩
theorem PmAt.sub (h : PmAt w F x) (hs : ∀ b, F b -> G b) : PmAt w G x := ⟨h.bl, h.rc, h.inA.sub hs, h.inB.sub hs⟩
theorem Jf3.chg (h : Jf3 w F A n ps) (hc : Chg G w w') (hd : Dj F G) : Jf3 w' F A n ps := ⟨h.sl.chg hc (h.inl.dj hd), h.len, fun p hp => (h.row p hp).chg hc hd, h.inl⟩
theorem Jf3.below (h : Jf3 w F A n ps) (hb : Below w.heap.size w w') : Jf3 w' F A n ps := ⟨h.sl.below hb, h.len, fun p hp => (h.row p hp).below hb, h.inl⟩
theorem Jf3.sub (h : Jf3 w F A n ps) (hs : ∀ b, F b -> G b) : Jf3 w G A n ps := ⟨h.sl, h.len, fun p hp => (h.row p hp).sub hs, h.inl.sub hs⟩
theorem Jf3.get (h : Jf3 w F A n ps) {j : Nat} (hj : j < ps.length) : ∃ b off, A = some ⟨b, off, none⟩ /\ b < w.heap.size /\ Jw5 w b (off + j * 7) ps[j].raw := by
 have hne : ps.flatMap Pm.cells ≠ [] := by
  intro e;have := Jw3 ps;rw [e] at this;simp only [List.length_nil] at this;omega
 obtain ⟨b, off, e, hb, hc⟩ := h.sl.at_ hne;refine ⟨b, off, e, hb, ?_⟩
 have X : ∀ q (hq : q < 7), w.cell? ⟨b, off + j * 7 + q, none⟩ = ps[j].cells[q]? := fun q hq => by
  have hq' : ps[j].cells[q]? = some (ps[j].cells[q]'(by rw [Jo0]; exact hq)) := List.getElem?_eq_getElem _;rw [hq', Nat.add_assoc];exact hc (j * 7 + q) _ (by rw [Jw2 ps j hj q hq, hq'])
 exact ⟨X 0 (by omega), X 1 (by omega), X 2 (by omega), X 3 (by omega), X 4 (by omega), X 5 (by omega), X 6 (by omega)⟩
end
theorem Jqm {w : World} {B : Nat} {e : TypeId} {k n : Nat} {v : Value} {xs : List Value} (h : w.ownsRow B e k v n xs) : ∃ a c, v = .slice (adr a) n c := by
 rcases h.2 with ⟨rfl, rfl⟩ | ⟨g, cap, cur, rfl, _⟩
 · exact ⟨none, 0, rfl⟩
 · exact ⟨some (g, 0), cap, rfl⟩
end Go.Proofs.YtalkkhafcfhglaaGreatDoor
