/-
  Several texts in one: ShelfM, TableCopy, Tv, Stands, Runs, Tac.
-/
import Derived.Laws.IdiomCopy
import Derived.RangeFuncBox
import Derived.Deep.RegionLaw
import Derived.Deep.DeepCutAuto
import Derived.Deep.CutBlock
import Derived.Deep.Cut
import Derived.WalkSmall
import Derived.Lib.AppendStr
import Derived.Test.YtalkkhafcfhglaaGreatDoorQ11
set_option maxRecDepth 100000
set_option maxHeartbeats 4000000
namespace Go.Proofs
open Go.Shelf
def Tryz.cloneM_ren : Go.Shelf.Ren := ⟨fun | 5 => 162 | 7 => 151 | n => n, fun | 23 => 215 | 25 => 268 | 3 => 167 | 4 => 4 | 20 => 20 | n => n, fun | n => n⟩
theorem Tryz.cloneM : Go.Proofs.SlLaysW.n5 Tryz.prog Tryz.cloneM_ren := {
 mixed := by kernel_rfl
 f5 := ⟨Tryz.f162.name, by decide, Tryz.func162.trans (congrArg some (by kernel_rfl))⟩
 f7 := Tryz.func151.trans (congrArg some (by kernel_rfl))
 t4 := Tryz.underlying4
 a4 := Tryz.isAgg4
 z4 := Tryz.sizeOf4
 v4 := Tryz.zeroValue4
 t20 := Tryz.underlying20
 a20 := Tryz.isAgg20
 z20 := Tryz.sizeOf20
 v20 := Tryz.zeroValue20
 t23 := Tryz.underlying215
 a23 := Tryz.isAgg215
 z23 := Tryz.sizeOf215
 v23 := Tryz.zeroValue215 }
end Go.Proofs
namespace Go.Proofs.YtalkkhafcfhglaaGreatDoor
open Go.RowKit Go.Maps Go.Shelf
theorem Jam.drew {w : World} {g mm : Nat} {ev : Int} {l : List Rc} (h : Jam w g mm ev l) : Jam w.drew g mm ev l := h.below ((Below.refl _ _).drew)
theorem Jvu {w : World} {mm : Nat} {l : List Rc} (h : MapAt w mm l) :
  Calls Tryz.prog 162 #[.map (some mm)] w fun e w' => e = .returned (.map (some w.heap.size)) /\ MapAt w' w.heap.size l /\ Below w.heap.size w w' := by
 obtain ⟨D, hown, hrep⟩ := h.own;refine (AnyW.maps_Clone_owns Tryz.cloneM 268 Jez mm l.length D w hown).mono ?_;rintro e w' ⟨rfl, h1, _, hb⟩;exact ⟨rfl, MapAt.mk' h1 hrep, hb⟩
theorem Jz6 {w : World} {mm : Nat} {ev : Int} {l : List Rc} (h : MapAt w mm l) : Jam (w.alloc (.cells #[.int .i64 ev, .map (some mm)] 217)) w.heap.size mm ev l :=
 ⟨heap_alloc_new w _, h.below ((Below.refl _ _).alloc (Nat.le_refl _) _)⟩
theorem Joa {w : World} {g mm : Nat} {ev : Int} {l : List Rc} (h : Jam w g mm ev l) :
  Calls Tryz.prog 90 #[.pointer (some ⟨g, 0, none⟩)] w fun e w' => ∃ g2 mm2, e = .returned (.pointer (some ⟨g2, 0, none⟩)) /\ Jam w' g2 mm2 ev l /\ Below w.heap.size w w' /\ w.heap.size <= g2 /\ w.heap.size <= mm2 := by
 have hd := h.drew;obtain ⟨c0, c1⟩ := h.cells;obtain ⟨d0, d1⟩ := hd.cells;go_enter Tryz.func90, Tryz.ntmps90;go_wp2_with fail
 go_region_with (first
  | (go_at_call 162; refine (Jvu hd.map).mono ?_; rintro e w2 ⟨rfl, hm2, hb2⟩
     have h2 := hd.below hb2;obtain ⟨e0, e1⟩ := h2.cells))
 all_goals
  go_wp2;go_ret;exact ⟨_, _, rfl, Jz6 hm2, ((Below.refl _ w).drew.trans hb2).alloc hb2.size _, hb2.size, Nat.le_refl _⟩
end Go.Proofs.YtalkkhafcfhglaaGreatDoor
namespace Go.Proofs.YtalkkhafcfhglaaGreatDoor
open Go.RowKit
structure Tv where
 r : Rch
 tabs : List (List Rc)
def Tv.tab (t : Tv) (i : Nat) : List Rc := t.tabs.getD i []
def Tv.withFs (t : Tv) (fl : List Int) : Tv := ⟨⟨t.r.now, t.r.nm, t.r.ts, fl⟩, t.tabs⟩
def Rch.ev (r : Rch) (i : Nat) : Int := ((r.ts[i]?).map Ti.ev).getD 0
def Rch.sh (r : Rch) (i : Nat) : Int := ((r.ts[i]?).map Ti.sh).getD 0
theorem Rch.ev_at {r : Rch} {i : Nat} (h : i < r.ts.length) : r.ev i = (r.ts[i]).ev := by unfold Rch.ev; rw [List.getElem?_eq_getElem h]; rfl
theorem Rch.sh_at {r : Rch} {i : Nat} (h : i < r.ts.length) : r.sh i = (r.ts[i]).sh := by unfold Rch.sh; rw [List.getElem?_eq_getElem h]; rfl
def ptrV (a : Nat) : Value := .pointer (some ⟨a, 0, none⟩)
structure Job (w : World) (F : Nat -> Prop) (L : Option Addr) (k : Nat) (ga gm : Nat -> Nat) (ev : Nat -> Int) (tab : Nat -> List Rc) : Prop where
 row : Sl w L ((List.range k).map fun i => ptrV (ga i))
 tab : ∀ i, i < k -> Jam w (ga i) (gm i) (ev i) (tab i)
 apart : ∀ i j, i < k -> j < k -> gm i = gm j -> i = j
 ina : ∀ i, i < k -> F (ga i) /\ F (gm i)
 inl : AIn F L
structure Jal (w : World) (F : Nat -> Prop) (g : Nat) (t : Tv) : Prop where
 ex : ∃ A c B m d L cl ga gm, Bx w g 125 #[.int .i64 t.r.now, .string t.r.nm, .slice A t.tabs.length c, .slice B m d, .slice L t.tabs.length cl] /\ Jef w A t.tabs.length B m t.r /\ t.tabs.length <= c /\ m <= 1000000 /\ AIn F A /\ AIn F B /\ Job w F L t.tabs.length ga gm t.r.ev t.tab
 g : F g
 ins : Ins F w
 few : t.tabs.length <= 1000
 nm : t.r.nm.size <= maxLen
section
variable {w w' : World} {F G : Nat -> Prop} {g : Nat} {t : Tv}
theorem Job.chg {L : Option Addr} {k : Nat} {ga gm : Nat -> Nat} {ev : Nat -> Int} {tab : Nat -> List Rc} (h : Job w F L k ga gm ev tab) (hc : Chg G w w') (hd : Dj F G) : Job w' F L k ga gm ev tab :=
 ⟨h.row.chg hc (h.inl.dj hd), fun i hi => (h.tab i hi).chg hc (hd _ (h.ina i hi).1) (hd _ (h.ina i hi).2), h.apart, h.ina, h.inl⟩
theorem Jef.chg {A B : Option Addr} {n m : Nat} {r : Rch} (h : Jef w A n B m r) (hc : Chg G w w') (hA : AIn (fun b => ¬ G b) A) (hB : AIn (fun b => ¬ G b) B) : Jef w' A n B m r := ⟨h.ts.chg hc hA, h.fs.chg hc hB, h.now⟩
theorem Jal.chg (h : Jal w F g t) (hc : Chg G w w') (hd : Dj F G) : Jal w' F g t := by
 obtain ⟨A, c, B, m, d, L, cl, ga, gm, h1, h2, h3, h3', h4, h5, h6⟩ := h.ex;exact ⟨⟨A, c, B, m, d, L, cl, ga, gm, h1.chg hc (hd g h.g), h2.chg hc (h4.dj hd) (h5.dj hd), h3, h3', h4, h5, h6.chg hc hd⟩, h.g, h.ins.up hc.size, h.few, h.nm⟩
theorem Jal.below (h : Jal w F g t) (hb : Below w.heap.size w w') : Jal w' F g t := h.chg (G := fun _ => False) (Chg.of_below hb) (fun _ _ x => x)
theorem Jal.len (h : Jal w F g t) : t.r.ts.length = t.tabs.length := by
 obtain ⟨A, c, B, m, d, L, cl, ga, gm, h1, h2, _⟩ := h.ex;exact h2.ts.len
end
theorem Jrq {a b : World} (h : Below a.heap.size a b) (row : Option Nat) : a.grownBy b row := ⟨h.os, h.tape, h.output, h.size, fun i hi _ => h.block i hi⟩
theorem Jaj {w w' : World} {B : Nat} {e : TypeId} {k : Nat} {v : Value} {n : Nat} {xs : List Value} (h : w.ownsRow B e k v n xs) (hb : Below w.heap.size w w') : w'.ownsRow B e k v n xs :=
 h.kept (Jrq hb none) (by cases v.ownBlock <;> simp)
theorem Jaq {w : World} {B : Nat} {e : TypeId} {k : Nat} {v : Value} {n : Nat} {xs : List Value} (h : w.ownsRow B e k v n xs) : ∃ A c, v = .slice A n c /\ Sl w A xs := by
 rcases h.2 with ⟨rfl, rfl⟩ | ⟨g, cap, cur, rfl, _, hg, _, _, _, ht⟩
 · have : xs = [] := List.eq_nil_of_length_eq_zero (by simpa using h.1)
   subst this;exact ⟨none, 0, rfl, Sl.nil _ _⟩
 · refine ⟨some ⟨g, 0, none⟩, cap, rfl, ⟨fun _ => ⟨g, 0, rfl, lt_of_block hg, fun j u hu => ?_⟩⟩⟩
   have hj := (List.getElem?_eq_some_iff.1 hu).1;rw [h.1] at hj;rw [Nat.zero_add, h.cellAt j hj];exact hu
theorem Jdp {w : World} {B B' : Nat} {e : TypeId} {k n : Nat} {v : Value} {xs : List Value} (h : w.ownsRow B e k v n xs) (hb : B' <= B) : w.ownsRow B' e k v n xs :=
 ⟨h.1, h.2.imp id fun ⟨g, cap, cur, a, b, c⟩ => ⟨g, cap, cur, a, Nat.le_trans hb b, c⟩⟩
theorem Jcm {w : World} {B : Nat} {e : TypeId} {k : Nat} {v : Value} {n : Nat} {xs : List Value} (h : w.ownsRow B e k v n xs) {b : Nat} (hb : v.ownBlock = some b) : ∃ cur, w.heap[b]? = some (.cells cur e (0, 0)) := by
 rcases h.2 with ⟨rfl, _⟩ | ⟨g, cap, cur, rfl, _, hg, _⟩
 · simp [Value.ownBlock] at hb
 · simp [Value.ownBlock] at hb; subst hb; exact ⟨cur, hg⟩
theorem Jgw {w : World} {B B' : Nat} {e e' : TypeId} {k k' : Nat} {v v' : Value} {n n' : Nat} {xs xs' : List Value} (h : w.ownsRow B e k v n xs) (h' : w.ownsRow B' e' k' v' n' xs') (hne : e ≠ e') : v.ownBlock = none \/ v.ownBlock ≠ v'.ownBlock := by
 cases hv : v.ownBlock with
 | none => exact .inl rfl
 | some b =>
   refine .inr fun e2 => ?_;obtain ⟨c, hc⟩ := Jcm h hv;obtain ⟨c', hc'⟩ := Jcm h' e2.symm;rw [hc] at hc';injection hc' with hc';injection hc' with _ e3;exact hne e3
theorem Bx.not_row {w : World} {g : Nat} {T : TypeId} {cs : Array Value} (h : Bx w g T cs) {B : Nat} {e : TypeId} {k : Nat} {v : Value} {n : Nat} {xs : List Value} (h' : w.ownsRow B e k v n xs) (hne : T ≠ e) : some g ≠ v.ownBlock := by
 intro e2;obtain ⟨c', hc'⟩ := Jcm h' e2.symm;rw [h.blk] at hc';injection hc' with hc';injection hc' with _ e3;exact hne e3
structure Joc (B : Nat) (T : TypeId) (w w' : World) : Prop where
 os : w'.os = w.os
 tape : w'.tape = w.tape
 output : w'.output = w.output
 size : w.heap.size <= w'.heap.size
 block : ∀ b, b < w.heap.size -> (b < B \/ ∀ cs fr, w.heap[b]? ≠ some (.cells cs T fr)) -> w'.heap[b]? = w.heap[b]?
theorem Joc.of_grown {B : Nat} {T : TypeId} {w w' : World} {row : Option Nat} (h : w.grownBy w' row) (hr : ∀ b, row = some b -> B <= b /\ ∃ cs fr, w.heap[b]? = some (.cells cs T fr)) : Joc B T w w' :=
 ⟨h.os, h.tape, h.output, h.size, fun i hi hd => h.block i hi fun e => by
  obtain ⟨h1, cs, fr, h2⟩ := hr i e.symm;rcases hd with hd | hd
  · omega
  · exact hd cs fr h2⟩
theorem Joc.row {B : Nat} {T : TypeId} {w w' : World} {k : Nat} {v : Value} {n : Nat} {xs : List Value} (h : w.grownBy w' v.ownBlock) (ho : w.ownsRow B T k v n xs) : Joc B T w w' :=
 .of_grown h fun b hb => ⟨(ho.lt b hb).1, by obtain ⟨c, hc⟩ := Jcm ho hb; exact ⟨c, _, hc⟩⟩
structure Jav (B g : Nat) (T : TypeId) (w w' : World) : Prop where
 os : w'.os = w.os
 tape : w'.tape = w.tape
 output : w'.output = w.output
 size : w.heap.size <= w'.heap.size
 block : ∀ b, b < w.heap.size -> b ≠ g -> (b < B \/ ∀ cs fr, w.heap[b]? ≠ some (.cells cs T fr)) -> w'.heap[b]? = w.heap[b]?
theorem Jav.below {B B' g : Nat} {T : TypeId} {w w' : World} (h : Jav B g T w w') (h1 : B' <= B) (h2 : B' <= g) (h3 : B' <= w.heap.size) : Below B' w w' := ⟨h.os, h.tape, h.output, h.size, fun b hb => h.block b (by omega) (by omega) (.inl (by omega))⟩
theorem Jav.refl (B g : Nat) (T : TypeId) (w : World) : Jav B g T w w := ⟨rfl, rfl, rfl, Nat.le_refl _, fun _ _ _ _ => rfl⟩
theorem Jav.trans {B g : Nat} {T : TypeId} {a b c : World} (h : Jav B g T a b) (k : Jav B g T b c) : Jav B g T a c :=
 ⟨k.os.trans h.os, k.tape.trans h.tape, k.output.trans h.output, Nat.le_trans h.size k.size, fun i hi hg hd => by
  have e1 := h.block i hi hg hd;refine (k.block i (Nat.lt_of_lt_of_le hi h.size) hg ?_).trans e1;rcases hd with hd | hd
  · exact .inl hd
  · exact .inr fun cs fr => by rw [e1]; exact hd cs fr⟩
theorem Jav.of_below {B g : Nat} {T : TypeId} {w w' : World} (h : Below w.heap.size w w') : Jav B g T w w' := ⟨h.os, h.tape, h.output, h.size, fun i hi _ _ => h.block i hi⟩
theorem Jav.row {B g : Nat} {T : TypeId} {w w' : World} {k : Nat} {v : Value} {n : Nat} {xs : List Value} (h : w.grownBy w' v.ownBlock) (ho : w.ownsRow B T k v n xs) : Jav B g T w w' :=
 have s := Joc.row h ho
 ⟨s.os, s.tape, s.output, s.size, fun i hi _ hd => s.block i hi hd⟩
theorem Jai (w : World) (g i : Nat) (v : Value) : w.grownBy (w.setCell ⟨g, i, none⟩ v) (some g) :=
 ⟨rfl, rfl, rfl, (KeepsWalks.setCell w _ v).size, fun k _ hk => Below.heap_setCell _ _ _ k (fun e => hk (by rw [e]))⟩
theorem Jav.set {B g : Nat} {T : TypeId} (w : World) (i : Nat) (v : Value) : Jav B g T w (w.setCell ⟨g, i, none⟩ v) :=
 have s := Jai w g i v
 ⟨s.os, s.tape, s.output, s.size, fun i hi hg _ => s.block i hi (fun e => hg (by cases e; rfl))⟩
theorem Jb8 {a w w' : World} {B : Nat} {e : TypeId} {k n : Nat} {v : Value} {xs : List Value} (h : w.ownsRow B e k v n xs) (hg : w.grownBy w' v.ownBlock) (hb : Below B a w) (hB : B <= w.heap.size) : Below B a w' :=
 hb.trans ⟨hg.os, hg.tape, hg.output, hg.size, fun b hlt => hg.block b (by omega) (fun e => by have := (h.lt b e.symm).1; omega)⟩
theorem Jp7 : (Tryz.prog.info? 169).map (fun i => (i.zero, i.size, i.bytes)) = some (some (.agg #[.string ByteArray.empty, .int .i64 0, .int .i64 0, .int .i64 0, .int .u64 0, .int .i64 0, .int .i64 0]), 7, 64) := by kernel_rfl
theorem J5x {w : World} {base : Nat} {v : Value} {n : Nat} {xs : List Value} (h : w.ownsRow base 169 7 v n xs) (A : Option Addr) (m c : Nat) (news : List Value) (hl : news.length = m * 7) (hs : Sl w A news) (h1 : ∀ u ∈ news, u.oneCell' = true) (hn : n + m <= 1000000) (hb : base <= w.heap.size) :
  ∃ v' w', (Builtin.append_ #[140, 140] 140 #[v, .slice A m c]).run Tryz.prog w = .ok v' w' /\ w'.ownsRow base 169 7 v' (n + m) (xs ++ news) /\ w.grownBy w' v.ownBlock := by
 obtain ⟨i0, hi, hz0, hz1, hz2⟩ := info_parts Jp7;obtain ⟨v', w', r1, r2, r3, _⟩ := Jbs (P := Tryz.prog) w base 140 140 169 i0 _ 7 64 Tryz.underlying140 hi hz0 hz1 hz2 rfl (by decide) v n xs h A m c news hl hs h1 (by unfold maxLen; omega) (by omega) hb;exact ⟨v', w', r1, r2, r3⟩
theorem Jrr : (Tryz.prog.info? 9).map (fun i => (i.zero, i.size, i.bytes)) = some (some (.string ByteArray.empty), 1, 16) := by kernel_rfl
theorem J5m {w : World} {base : Nat} {v : Value} {n : Nat} {xs : List Value} (h : w.ownsRow base 9 1 v n xs) (A : Option Addr) (m c : Nat) (news : List Value) (hl : news.length = m * 1) (hs : Sl w A news) (h1 : ∀ u ∈ news, u.oneCell' = true) (hn : n + m <= 1000000) (hb : base <= w.heap.size) :
  ∃ v' w', (Builtin.append_ #[22, 22] 22 #[v, .slice A m c]).run Tryz.prog w = .ok v' w' /\ w'.ownsRow base 9 1 v' (n + m) (xs ++ news) /\ w.grownBy w' v.ownBlock := by
 obtain ⟨i0, hi, hz0, hz1, hz2⟩ := info_parts Jrr;obtain ⟨v', w', r1, r2, r3, _⟩ := Jbs (P := Tryz.prog) w base 22 22 9 i0 _ 1 16 Tryz.underlying22 hi hz0 hz1 hz2 rfl (by decide) v n xs h A m c news hl hs h1 (by unfold maxLen; omega) (by omega) hb;exact ⟨v', w', r1, r2, r3⟩
theorem Jfp : (Tryz.prog.info? 3).map (fun i => (i.zero, i.size, i.bytes)) = some (some (.int .i64 0), 1, 8) := by kernel_rfl
theorem J5n {w : World} {base : Nat} {v : Value} {n : Nat} {xs : List Value} (h : w.ownsRow base 3 1 v n xs) (A : Option Addr) (m c : Nat) (news : List Value) (hl : news.length = m * 1) (hs : Sl w A news) (h1 : ∀ u ∈ news, u.oneCell' = true) (hn : n + m <= 1000000) (hb : base <= w.heap.size) :
  ∃ v' w', (Builtin.append_ #[51, 51] 51 #[v, .slice A m c]).run Tryz.prog w = .ok v' w' /\ w'.ownsRow base 3 1 v' (n + m) (xs ++ news) /\ w.grownBy w' v.ownBlock := by
 obtain ⟨i0, hi, hz0, hz1, hz2⟩ := info_parts Jfp;obtain ⟨v', w', r1, r2, r3, _⟩ := Jbs (P := Tryz.prog) w base 51 51 3 i0 _ 1 8 Tryz.underlying51 hi hz0 hz1 hz2 rfl (by decide) v n xs h A m c news hl hs h1 (by unfold maxLen; omega) (by omega) hb;exact ⟨v', w', r1, r2, r3⟩
theorem Jz7 : (Tryz.prog.info? 126).map (fun i => (i.zero, i.size, i.bytes)) = some (some (.pointer none), 1, 8) := by kernel_rfl
theorem Jrs : (Tryz.prog.info? 242).map (fun i => (i.zero, i.size, i.bytes)) = some (some (.agg #[.int .u64 0, .int .i64 0, .int .i64 0, .int .i64 0, .int .i64 0, .int .i64 0]), 6, 48) := by kernel_rfl
theorem J5o {w : World} {base : Nat} {v : Value} {n : Nat} {xs : List Value} (h : w.ownsRow base 242 6 v n xs) (A : Option Addr) (m c : Nat) (news : List Value) (hl : news.length = m * 6) (hs : Sl w A news) (h1 : ∀ u ∈ news, u.oneCell' = true) (hn : n + m <= 1000000) (hb : base <= w.heap.size) :
  ∃ v' w', (Builtin.append_ #[240, 240] 240 #[v, .slice A m c]).run Tryz.prog w = .ok v' w' /\ w'.ownsRow base 242 6 v' (n + m) (xs ++ news) /\ w.grownBy w' v.ownBlock := by
 obtain ⟨i0, hi, hz0, hz1, hz2⟩ := info_parts Jrs;obtain ⟨v', w', r1, r2, r3, _⟩ := Jbs (P := Tryz.prog) w base 240 240 242 i0 _ 6 48 Tryz.underlying240 hi hz0 hz1 hz2 rfl (by decide) v n xs h A m c news hl hs h1 (by unfold maxLen; omega) (by omega) hb;exact ⟨v', w', r1, r2, r3⟩
theorem Jz8 : (Tryz.prog.info? 139).map (fun i => (i.zero, i.size, i.bytes)) = some (some (.agg #[.int .u64 0, .int .i64 0, .int .i64 0, .int .i64 0, .int .i64 0, .slice none 0 0]), 6, 64) := by kernel_rfl
theorem Jjf : (Tryz.prog.info? 144).map (fun i => (i.zero, i.size, i.bytes)) = some (some (.agg #[.int .u64 0, .int .i64 0, .int .i64 0, .int .i64 0, .int .i64 0, .slice none 0 0, .slice none 0 0]), 7, 88) := by kernel_rfl
theorem J5j {w : World} {base : Nat} {v : Value} {n : Nat} {xs : List Value} (h : w.ownsRow base 144 7 v n xs) (A : Option Addr) (m c : Nat) (news : List Value) (hl : news.length = m * 7) (hs : Sl w A news) (h1 : ∀ u ∈ news, u.oneCell' = true) (hn : n + m <= 1000000) (hb : base <= w.heap.size) :
  ∃ v' w', (Builtin.append_ #[91, 91] 91 #[v, .slice A m c]).run Tryz.prog w = .ok v' w' /\ w'.ownsRow base 144 7 v' (n + m) (xs ++ news) /\ w.grownBy w' v.ownBlock := by
 obtain ⟨i0, hi, hz0, hz1, hz2⟩ := info_parts Jjf;obtain ⟨v', w', r1, r2, r3, _⟩ := Jbs (P := Tryz.prog) w base 91 91 144 i0 _ 7 88 Tryz.underlying91 hi hz0 hz1 hz2 rfl (by decide) v n xs h A m c news hl hs h1 (by unfold maxLen; omega) (by omega) hb;exact ⟨v', w', r1, r2, r3⟩
theorem J16 {ops : Array Oper} {rest : List Oper} {o : Oper} {a : Act} {Q : Exit -> Act -> World -> Prop} {w : World} {base : Nat} {v : Value} {n : Nat} {xs : List Value} (hgd : o.guard = none) (s x : Operand)
  (ho : o.op = .call { callee := .builtin .append, args := #[s, x], argTypes := #[140, 140] }) (h : w.ownsRow base 169 7 v n xs) (hs : a.eval s = v) (A : Option Addr) (m c : Nat) (news : List Value) (hx : a.eval x = .slice A m c)
  (hl : news.length = m * 7) (hsl : Sl w A news) (h1 : ∀ u ∈ news, u.oneCell' = true) (hn : n + m <= 1000000) (hb : base <= w.heap.size)
  (hK : ∀ A' c' w', w'.ownsRow base 169 7 (.slice A' (n + m) c') (n + m) (xs ++ news) -> w.grownBy w' v.ownBlock -> wpList Tryz.prog ops Q rest (a.put o.dst (.slice A' (n + m) c')) w') : wpList Tryz.prog ops Q (o :: rest) a w := by
 obtain ⟨i0, hi, hz0, hz1, hz2⟩ := info_parts Jp7;refine Jan (P := Tryz.prog) w hgd s x 140 ho base 169 i0 _ 7 64 Tryz.underlying140 hi hz0 hz1 hz2 rfl (by decide) v n xs hs h A m c news hx hl hsl h1 (by unfold maxLen; omega) (by omega) hb ?_;intro v' w' h2 h3 _;obtain ⟨A', c', rfl, _⟩ := Jaq h2;exact hK A' c' w' h2 h3
theorem Jp8 {ops : Array Oper} {rest : List Oper} {o : Oper} {a : Act} {Q : Exit -> Act -> World -> Prop} {w : World} {base : Nat} {v : Value} {n : Nat} {xs : List Value} (hgd : o.guard = none) (s x : Operand)
  (ho : o.op = .call { callee := .builtin .append, args := #[s, x], argTypes := #[22, 22] }) (h : w.ownsRow base 9 1 v n xs) (hs : a.eval s = v) (A : Option Addr) (m c : Nat) (news : List Value) (hx : a.eval x = .slice A m c)
  (hl : news.length = m * 1) (hsl : Sl w A news) (h1 : ∀ u ∈ news, u.oneCell' = true) (hn : n + m <= 1000000) (hb : base <= w.heap.size)
  (hK : ∀ A' c' w', w'.ownsRow base 9 1 (.slice A' (n + m) c') (n + m) (xs ++ news) -> w.grownBy w' v.ownBlock -> wpList Tryz.prog ops Q rest (a.put o.dst (.slice A' (n + m) c')) w') : wpList Tryz.prog ops Q (o :: rest) a w := by
 obtain ⟨i0, hi, hz0, hz1, hz2⟩ := info_parts Jrr;refine Jan (P := Tryz.prog) w hgd s x 22 ho base 9 i0 _ 1 16 Tryz.underlying22 hi hz0 hz1 hz2 rfl (by decide) v n xs hs h A m c news hx hl hsl h1 (by unfold maxLen; omega) (by omega) hb ?_;intro v' w' h2 h3 _;obtain ⟨A', c', rfl, _⟩ := Jaq h2;exact hK A' c' w' h2 h3
theorem Jvv {ops : Array Oper} {rest : List Oper} {o : Oper} {a : Act} {Q : Exit -> Act -> World -> Prop} {w : World} {base : Nat} {v : Value} {n : Nat} {xs : List Value} (hgd : o.guard = none) (s x : Operand)
  (ho : o.op = .call { callee := .builtin .append, args := #[s, x], argTypes := #[51, 51] }) (h : w.ownsRow base 3 1 v n xs) (hs : a.eval s = v) (A : Option Addr) (m c : Nat) (news : List Value) (hx : a.eval x = .slice A m c)
  (hl : news.length = m * 1) (hsl : Sl w A news) (h1 : ∀ u ∈ news, u.oneCell' = true) (hn : n + m <= 1000000) (hb : base <= w.heap.size)
  (hK : ∀ A' c' w', w'.ownsRow base 3 1 (.slice A' (n + m) c') (n + m) (xs ++ news) -> w.grownBy w' v.ownBlock -> wpList Tryz.prog ops Q rest (a.put o.dst (.slice A' (n + m) c')) w') : wpList Tryz.prog ops Q (o :: rest) a w := by
 obtain ⟨i0, hi, hz0, hz1, hz2⟩ := info_parts Jfp;refine Jan (P := Tryz.prog) w hgd s x 51 ho base 3 i0 _ 1 8 Tryz.underlying51 hi hz0 hz1 hz2 rfl (by decide) v n xs hs h A m c news hx hl hsl h1 (by unfold maxLen; omega) (by omega) hb ?_;intro v' w' h2 h3 _;obtain ⟨A', c', rfl, _⟩ := Jaq h2;exact hK A' c' w' h2 h3
theorem Jvw {ops : Array Oper} {o : Oper} {a : Act} {K : Act -> World -> Prop} {Q : Exit -> Act -> World -> Prop} {E : Prop} {w : World} {base : Nat} {v : Value} {n : Nat} {xs : List Value} (hgd : o.guard = none) (s x : Operand)
  (ho : o.op = .call { callee := .builtin .append, args := #[s, x], argTypes := #[51, 51] }) (h : w.ownsRow base 3 1 v n xs) (hs : a.eval s = v) (A : Option Addr) (m c : Nat) (news : List Value) (hx : a.eval x = .slice A m c)
  (hl : news.length = m * 1) (hsl : Sl w A news) (h1 : ∀ u ∈ news, u.oneCell' = true) (hn : n + m <= 1000000) (hb : base <= w.heap.size)
  (hK : ∀ A' c' w', w'.ownsRow base 3 1 (.slice A' (n + m) c') (n + m) (xs ++ news) -> w.grownBy w' v.ownBlock -> K (a.put o.dst (.slice A' (n + m) c')) w') :
  if Region.wanted o (yielded ops a.tmps) = true then Oper.wp Tryz.prog o a w K Q else E := by
 obtain ⟨i0, hi, hz0, hz1, hz2⟩ := info_parts Jfp;refine Jbw (P := Tryz.prog) w hgd s x 51 ho base 3 i0 _ 1 8 Tryz.underlying51 hi hz0 hz1 hz2 rfl (by decide) v n xs hs h A m c news hx hl hsl h1 (by unfold maxLen; omega) (by omega) hb ?_;intro v' w' h2 h3 _;obtain ⟨A', c', rfl, _⟩ := Jaq h2;exact hK A' c' w' h2 h3
theorem Jvx {ops : Array Oper} {o : Oper} {a : Act} {K : Act -> World -> Prop} {Q : Exit -> Act -> World -> Prop} {E : Prop} {w : World} {base : Nat} {v : Value} {n : Nat} {xs : List Value} (hgd : o.guard = none) (s x : Operand)
  (ho : o.op = .call { callee := .builtin .append, args := #[s, x], argTypes := #[123, 123] }) (h : w.ownsRow base 126 1 v n xs) (hs : a.eval s = v) (A : Option Addr) (m c : Nat) (news : List Value) (hx : a.eval x = .slice A m c)
  (hl : news.length = m * 1) (hsl : Sl w A news) (h1 : ∀ u ∈ news, u.oneCell' = true) (hn : n + m <= 1000000) (hb : base <= w.heap.size)
  (hK : ∀ A' c' w', w'.ownsRow base 126 1 (.slice A' (n + m) c') (n + m) (xs ++ news) -> w.grownBy w' v.ownBlock -> K (a.put o.dst (.slice A' (n + m) c')) w') :
  if Region.wanted o (yielded ops a.tmps) = true then Oper.wp Tryz.prog o a w K Q else E := by
 obtain ⟨i0, hi, hz0, hz1, hz2⟩ := info_parts Jz7;refine Jbw (P := Tryz.prog) w hgd s x 123 ho base 126 i0 _ 1 8 Tryz.underlying123 hi hz0 hz1 hz2 rfl (by decide) v n xs hs h A m c news hx hl hsl h1 (by unfold maxLen; omega) (by omega) hb ?_;intro v' w' h2 h3 _;obtain ⟨A', c', rfl, _⟩ := Jaq h2;exact hK A' c' w' h2 h3
theorem J22 {ops : Array Oper} {rest : List Oper} {o : Oper} {a : Act} {Q : Exit -> Act -> World -> Prop} {w : World} {base : Nat} {v : Value} {n : Nat} {xs : List Value} (hgd : o.guard = none) (s x : Operand)
  (ho : o.op = .call { callee := .builtin .append, args := #[s, x], argTypes := #[240, 240] }) (h : w.ownsRow base 242 6 v n xs) (hs : a.eval s = v) (A : Option Addr) (m c : Nat) (news : List Value) (hx : a.eval x = .slice A m c)
  (hl : news.length = m * 6) (hsl : Sl w A news) (h1 : ∀ u ∈ news, u.oneCell' = true) (hn : n + m <= 1000000) (hb : base <= w.heap.size)
  (hK : ∀ A' c' w', w'.ownsRow base 242 6 (.slice A' (n + m) c') (n + m) (xs ++ news) -> w.grownBy w' v.ownBlock -> wpList Tryz.prog ops Q rest (a.put o.dst (.slice A' (n + m) c')) w') : wpList Tryz.prog ops Q (o :: rest) a w := by
 obtain ⟨i0, hi, hz0, hz1, hz2⟩ := info_parts Jrs;refine Jan (P := Tryz.prog) w hgd s x 240 ho base 242 i0 _ 6 48 Tryz.underlying240 hi hz0 hz1 hz2 rfl (by decide) v n xs hs h A m c news hx hl hsl h1 (by unfold maxLen; omega) (by omega) hb ?_;intro v' w' h2 h3 _;obtain ⟨A', c', rfl, _⟩ := Jaq h2;exact hK A' c' w' h2 h3
theorem Jvy {ops : Array Oper} {rest : List Oper} {o : Oper} {a : Act} {Q : Exit -> Act -> World -> Prop} {w : World} {base : Nat} {v : Value} {n : Nat} {xs : List Value} (hgd : o.guard = none) (s x : Operand)
  (ho : o.op = .call { callee := .builtin .append, args := #[s, x], argTypes := #[86, 86] }) (h : w.ownsRow base 139 6 v n xs) (hs : a.eval s = v) (A : Option Addr) (m c : Nat) (news : List Value) (hx : a.eval x = .slice A m c)
  (hl : news.length = m * 6) (hsl : Sl w A news) (h1 : ∀ u ∈ news, u.oneCell' = true) (hn : n + m <= 1000000) (hb : base <= w.heap.size)
  (hK : ∀ A' c' w', w'.ownsRow base 139 6 (.slice A' (n + m) c') (n + m) (xs ++ news) -> w.grownBy w' v.ownBlock -> wpList Tryz.prog ops Q rest (a.put o.dst (.slice A' (n + m) c')) w') : wpList Tryz.prog ops Q (o :: rest) a w := by
 obtain ⟨i0, hi, hz0, hz1, hz2⟩ := info_parts Jz8;refine Jan (P := Tryz.prog) w hgd s x 86 ho base 139 i0 _ 6 64 Tryz.underlying86 hi hz0 hz1 hz2 rfl (by decide) v n xs hs h A m c news hx hl hsl h1 (by unfold maxLen; omega) (by omega) hb ?_;intro v' w' h2 h3 _;obtain ⟨A', c', rfl, _⟩ := Jaq h2;exact hK A' c' w' h2 h3
theorem Jz9 {ops : Array Oper} {rest : List Oper} {o : Oper} {a : Act} {Q : Exit -> Act -> World -> Prop} {w : World} {base : Nat} {v : Value} {n : Nat} {xs : List Value} (hgd : o.guard = none) (s x : Operand)
  (ho : o.op = .call { callee := .builtin .append, args := #[s, x], argTypes := #[91, 91] }) (h : w.ownsRow base 144 7 v n xs) (hs : a.eval s = v) (A : Option Addr) (m c : Nat) (news : List Value) (hx : a.eval x = .slice A m c)
  (hl : news.length = m * 7) (hsl : Sl w A news) (h1 : ∀ u ∈ news, u.oneCell' = true) (hn : n + m <= 1000000) (hb : base <= w.heap.size)
  (hK : ∀ A' c' w', w'.ownsRow base 144 7 (.slice A' (n + m) c') (n + m) (xs ++ news) -> w.grownBy w' v.ownBlock -> wpList Tryz.prog ops Q rest (a.put o.dst (.slice A' (n + m) c')) w') : wpList Tryz.prog ops Q (o :: rest) a w := by
 obtain ⟨i0, hi, hz0, hz1, hz2⟩ := info_parts Jjf;refine Jan (P := Tryz.prog) w hgd s x 91 ho base 144 i0 _ 7 88 Tryz.underlying91 hi hz0 hz1 hz2 rfl (by decide) v n xs hs h A m c news hx hl hsl h1 (by unfold maxLen; omega) (by omega) hb ?_;intro v' w' h2 h3 _;obtain ⟨A', c', rfl, _⟩ := Jaq h2;exact hK A' c' w' h2 h3
end Go.Proofs.YtalkkhafcfhglaaGreatDoor
namespace Go.Proofs.YtalkkhafcfhglaaGreatDoor
end Go.Proofs.YtalkkhafcfhglaaGreatDoor
