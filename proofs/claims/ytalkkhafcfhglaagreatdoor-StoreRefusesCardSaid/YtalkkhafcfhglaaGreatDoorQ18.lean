/-
  Several texts in one: WordLineOfP, PolR, Pack.
-/
import Derived.Lib.Strings
import Derived.Lib.ItoaNum
import Derived.Lib.AppendIntMem
import Derived.Test.YtalkkhafcfhglaaGreatDoorQ17
set_option maxRecDepth 100000
set_option maxHeartbeats 4000000
namespace Go.Proofs.YtalkkhafcfhglaaGreatDoor.Py
open Go.RowKit
def J3a : Value -> Nat
 | .slice _ n _ => n
 | _ => 0
def Jay (a : Nat) (ws : List Wd) : List Wd := match ws[a]? with
 | some x => (ws.drop a).takeWhile (fun y => decide (y.line = x.line))
 | none => []
structure Box3 (w : World) (b : Nat) (t : ByteArray) (l c : Int) : Prop where
 lt : b < w.heap.size
 c0 : w.cell? ⟨b, 0, none⟩ = some (.string t)
 c1 : w.cell? ⟨b, 1, none⟩ = some (.int .i64 l)
 c2 : w.cell? ⟨b, 2, none⟩ = some (.int .i64 c)
 f0 : w.frozen? ⟨b, 0, none⟩ = false
 f1 : w.frozen? ⟨b, 1, none⟩ = false
 f2 : w.frozen? ⟨b, 2, none⟩ = false
theorem Box3.new (w : World) (T : TypeId) (t : ByteArray) (l c : Int) : Box3 (w.alloc (.cells #[.string t, .int .i64 l, .int .i64 c] T)) w.heap.size t l c :=
 ⟨by simp, World.cell?_alloc_at _ _ _ _ rfl, World.cell?_alloc_at _ _ _ _ rfl, World.cell?_alloc_at _ _ _ _ rfl, World.frozen?_alloc_at _ _ _ _ rfl, World.frozen?_alloc_at _ _ _ _ rfl, World.frozen?_alloc_at _ _ _ _ rfl⟩
theorem Box3.below {w w' : World} {b : Nat} {t : ByteArray} {l c : Int} (h : Box3 w b t l c) (hb : Below w.heap.size w w') : Box3 w' b t l c :=
 ⟨Nat.lt_of_lt_of_le h.lt hb.size, (hb.cell (p := ⟨b, 0, none⟩) h.lt).trans h.c0, (hb.cell (p := ⟨b, 1, none⟩) h.lt).trans h.c1, (hb.cell (p := ⟨b, 2, none⟩) h.lt).trans h.c2,
  (hb.frozen (p := ⟨b, 0, none⟩) h.lt).trans h.f0, (hb.frozen (p := ⟨b, 1, none⟩) h.lt).trans h.f1, (hb.frozen (p := ⟨b, 2, none⟩) h.lt).trans h.f2⟩
theorem Box3.grown {w w' : World} {row : Option Nat} {b : Nat} {t : ByteArray} {l c : Int} (h : Box3 w b t l c) (hg : w.grownBy w' row) (hne : some b ≠ row) : Box3 w' b t l c := by
 have hb := hg.block b h.lt hne
 exact ⟨Nat.lt_of_lt_of_le h.lt hg.size, (World.cell?_of_block (a := ⟨b, 0, none⟩) hb).trans h.c0, (World.cell?_of_block (a := ⟨b, 1, none⟩) hb).trans h.c1, (World.cell?_of_block (a := ⟨b, 2, none⟩) hb).trans h.c2,
  (World.frozen?_of_block (a := ⟨b, 0, none⟩) hb).trans h.f0, (World.frozen?_of_block (a := ⟨b, 1, none⟩) hb).trans h.f1, (World.frozen?_of_block (a := ⟨b, 2, none⟩) hb).trans h.f2⟩
theorem Box3.set {w : World} {b : Nat} {t t' : ByteArray} {l c l' c' : Int} (h : Box3 w b t l c) : Box3 (((w.setCell ⟨b, 0, none⟩ (.string t')).setCell ⟨b, 1, none⟩ (.int .i64 l')).setCell ⟨b, 2, none⟩ (.int .i64 c')) b t' l' c' := by
 have n01 : (⟨b, 1, none⟩ : Addr) ≠ ⟨b, 0, none⟩ := by simp
 have n02 : (⟨b, 2, none⟩ : Addr) ≠ ⟨b, 0, none⟩ := by simp
 have n12 : (⟨b, 2, none⟩ : Addr) ≠ ⟨b, 1, none⟩ := by simp
 refine ⟨by simpa using h.lt, ?_, ?_, ?_, ?_, ?_, ?_⟩
 · rw [World.cell?_setCell_other _ _ _ _ n02, World.cell?_setCell_other _ _ _ _ n01, World.cell?_setCell_same _ _ _ h.c0]
 · rw [World.cell?_setCell_other _ _ _ _ n12, World.cell?_setCell_same _ _ _ (u := .int .i64 l)]
   rw [World.cell?_setCell_other _ _ _ _ n01.symm]; exact h.c1
 · rw [World.cell?_setCell_same _ _ _ (u := .int .i64 c)]
   rw [World.cell?_setCell_other _ _ _ _ n12.symm, World.cell?_setCell_other _ _ _ _ n02.symm]; exact h.c2
 · rw [World.frozen?_setCell, World.frozen?_setCell, World.frozen?_setCell]; exact h.f0
 · rw [World.frozen?_setCell, World.frozen?_setCell, World.frozen?_setCell]; exact h.f1
 · rw [World.frozen?_setCell, World.frozen?_setCell, World.frozen?_setCell]; exact h.f2
structure Jb0 (w : World) (g a : Nat) (ws : List Wd) (wr : World) : Prop where
 at_ : Ja6 wr g a ws
 gr : w.grownBy wr (some g)
 k1 : wr.cell? ⟨g, 1, none⟩ = w.cell? ⟨g, 1, none⟩
 k2 : wr.frozen? ⟨g, 1, none⟩ = w.frozen? ⟨g, 1, none⟩
theorem Jb0.grown {w w2 w3 : World} {row : Option Nat} {g a a0 : Nat} {ws : List Wd} (h : Jb0 w g a ws w2) (h0 : Ja6 w g a0 ws) (hg : w2.grownBy w3 row) (hr : ∀ k, row = some k -> w.heap.size <= k) : Jb0 w g a ws w3 := by
 have hne : some g ≠ row := fun e => by have := hr g e.symm; have := h0.lt; omega
 have hb := hg.block g h.at_.lt hne
 have hgr : w.grownBy w3 (some g) := ⟨hg.os.trans h.gr.os, hg.tape.trans h.gr.tape, hg.output.trans h.gr.output, Nat.le_trans h.gr.size hg.size, fun k hk hkn =>
  (hg.block k (Nat.lt_of_lt_of_le hk h.gr.size) (fun e => by have := hr k e.symm; omega)).trans (h.gr.block k hk hkn)⟩
 have e1 : w3.cell? ⟨g, 1, none⟩ = w.cell? ⟨g, 1, none⟩ := (World.cell?_of_block (a := ⟨g, 1, none⟩) hb).trans h.k1;have e2 : w3.frozen? ⟨g, 1, none⟩ = w.frozen? ⟨g, 1, none⟩ := (World.frozen?_of_block (a := ⟨g, 1, none⟩) hb).trans h.k2;exact ⟨h0.grow hgr ((World.cell?_of_block (a := ⟨g, 0, none⟩) hb).trans h.at_.c0) ((World.frozen?_of_block (a := ⟨g, 0, none⟩) hb).trans h.at_.f0) e1 e2 h.at_.le, hgr, e1, e2⟩
theorem Jb0.below {w w2 w3 : World} {g a a0 : Nat} {ws : List Wd} (h : Jb0 w g a ws w2) (h0 : Ja6 w g a0 ws) (hb : Below w2.heap.size w2 w3) : Jb0 w g a ws w3 := h.grown h0 (Jaa hb none) (fun _ e => nomatch e)
theorem Jb0.set {w w2 : World} {g a a0 : Nat} {ws : List Wd} (h : Jb0 w g a ws w2) (h0 : Ja6 w g a0 ws) {p : Addr} (hp : w.heap.size <= p.block) (u : Value) : Jb0 w g a ws (w2.setCell p u) :=
 h.grown h0 (row := some p.block) ⟨rfl, rfl, rfl, by simp, fun k _ hne => Below.heap_setCell _ _ _ _ (fun e => hne (by rw [e]))⟩ (fun k e => by injection e with e; omega)
def Jok (o : Option Wd) : ByteArray := match o with | some x => ⟨x.text.toArray⟩ | none => ByteArray.empty
def Je7 (o : Option Wd) : Int := match o with | some x => x.line | none => 0
def wcol (o : Option Wd) : Int := match o with | some x => x.col | none => 0
theorem Jej (a : Nat) (ws : List Wd) : Jif a ws = .tuple #[.agg #[.string (Jok ws[a]?), .int .i64 (Je7 ws[a]?), .int .i64 (wcol ws[a]?)], .bool (decide (a < ws.length))] := by
 unfold Jif Jok Je7 wcol;by_cases h : a < ws.length
 · rw [List.getElem?_eq_getElem h]; simp [wagg, h]
 · rw [List.getElem?_eq_none (by omega)]; simp [Jim, h]
theorem Jr0 {ws : List Wd} {a j : Nat} (h : a + j < ws.length) : wrow ((ws.drop a).take (j + 1)) = wrow ((ws.drop a).take j) ++ [.string (Jok ws[a + j]?), .int .i64 (Je7 ws[a + j]?), .int .i64 (wcol ws[a + j]?)] := by
 rw [List.take_succ_eq_append_getElem (by rw [List.length_drop]; omega), Jch, List.getElem?_eq_getElem h];simp [wrow, Jg1, Jok, Je7, wcol]
theorem Jf8 (w : World) (T : TypeId) (a b c : Value) : ∀ j u, [a, b, c][j]? = some u -> (w.alloc (.cells #[a, b, c] T)).cell? ((⟨w.heap.size, 0, none⟩ : Addr).add j) = some u := by
 intro j u hj
 match j, hj with
 | 0, hj => simp at hj; subst hj; simp [Addr.add]
 | 1, hj => simp at hj; subst hj; simp [Addr.add]
 | 2, hj => simp at hj; subst hj; simp [Addr.add]
theorem Jjn {ws : List Wd} {a j : Nat} (hj : a + j <= ws.length) (hall : ∀ i, i < j -> Je7 ws[a + i]? = Je7 ws[a]?) (hs : a + j < ws.length -> Je7 ws[a + j]? ≠ Je7 ws[a]?) : Jay a ws = (ws.drop a).take j := by
 unfold Jay;by_cases ha : a < ws.length
 · rw [List.getElem?_eq_getElem ha]
   simp only
   have hp : ((ws.drop a).take j).all (fun y => decide (y.line = ws[a].line)) = true := by
    rw [List.all_eq_true];intro y hy;obtain ⟨i, hi, e⟩ := List.getElem_of_mem hy;rw [List.length_take, List.length_drop] at hi;have h1 := hall i (by omega);rw [List.getElem?_eq_getElem (by omega : a + i < ws.length), List.getElem?_eq_getElem ha] at h1;rw [List.getElem_take, List.getElem_drop] at e;subst e;exact decide_eq_true h1
   by_cases h : a + j < ws.length
   · have h1 := hs h
     rw [List.getElem?_eq_getElem h, List.getElem?_eq_getElem ha] at h1;exact Je6 _ _ j (by rw [List.length_drop]; omega) hp (by rw [List.getElem_drop]; exact decide_eq_false h1)
   · have e : (ws.drop a).take j = ws.drop a := List.take_of_length_le (by rw [List.length_drop]; omega)
     rw [e] at hp ⊢;exact Jgz _ _ hp
 · rw [List.getElem?_eq_none (by omega), List.drop_of_length_le (by omega)]
   simp
theorem Jky {ws : List Wd} {a j : Nat} (h : a + j <= ws.length) (hj : j ≠ 0) : (wrow ((ws.drop a).take j))[1]? = some (.int .i64 (Je7 ws[a]?)) := by
 have hl : 0 < ((ws.drop a).take j).length := by rw [List.length_take, List.length_drop]; omega
 have := (Jg2 _ 0 hl).2.1;rw [Nat.zero_mul, Nat.zero_add] at this;rw [this, List.getElem?_eq_getElem (by omega : a < ws.length)];simp [Je7]
structure J43 (w : World) (g a : Nat) (ws : List Wd) (j xb : Nat) (vo : Value) (wr : World) : Prop where
 hj : a + j <= ws.length
 xge : w.heap.size <= xb
 box : Box3 wr xb (Jok ws[a + j]?) (Je7 ws[a + j]?) (wcol ws[a + j]?)
 own : wr.ownsRow w.heap.size 208 3 vo j (wrow ((ws.drop a).take j))
 ne : vo.ownBlock ≠ some xb
 mem : Jb0 w g (a + j) ws wr
 all : ∀ i, i < j -> Je7 ws[a + i]? = Je7 ws[a]?
theorem Jkz (w : World) (g a : Nat) (ws : List Wd) (h : Ja6 w g a ws) :
  Calls Tryz.prog 179 #[.pointer (some ⟨g, 0, none⟩)] w fun e w' => ∃ v, e = .returned v /\ w'.ownsRow w.heap.size 208 3 v (Jay a ws).length (wrow (Jay a ws)) /\ Jb0 w g (a + (Jay a ws).length) ws w' := by
 obtain ⟨i0, hi, hz0, hz1, hz2⟩ := info_parts Jjj;have hglt := h.lt;have hfew := h.few;go_enter Tryz.func179, Tryz.ntmps179
 go_wp2_with (first
  | (go_at_call 109; refine (Jei _ _ _ _ h).mono ?_; rw [Jej]; rintro e w1 ⟨rfl, hb⟩))
 go_loopw [3, 4, 5] (fun vo vx vi wr => ∃ j xb, vx = .pointer (some ⟨xb, 0, none⟩) /\ vi = .bool (decide (a + j < ws.length)) /\ J43 w g a ws j xb vo wr) (fun vo _ _ _ => ws.length - J3a vo)
 case atStart =>
  refine ⟨0, w1.heap.size, rfl, rfl, ⟨h.le, hb.size, Box3.new _ _ _ _ _, World.ownsRow_nil _ _ _ _, by simp [Value.ownBlock], ⟨h.below (hb.alloc hb.size _), Jaa (hb.alloc hb.size _) _, (hb.alloc hb.size _).cell (p := ⟨g, 1, none⟩) hglt, (hb.alloc hb.size _).frozen (p := ⟨g, 1, none⟩) hglt⟩, fun i hi => by omega⟩⟩
 case round =>
  obtain ⟨j, xb, rfl, rfl, hL⟩ := hrel;have hj := hL.hj;obtain ⟨A, c, rfl, hjc, hsl⟩ := own_slice hL.own;obtain ⟨xt, hxt⟩ : ∃ xt, xt = Jok ws[a + j]? := ⟨_, rfl⟩;obtain ⟨xl, hxl⟩ : ∃ xl, xl = Je7 ws[a + j]? := ⟨_, rfl⟩;obtain ⟨xc, hxc⟩ : ∃ xc, xc = wcol ws[a + j]? := ⟨_, rfl⟩;obtain ⟨l0, hl0⟩ : ∃ l0, l0 = Je7 ws[a]? := ⟨_, rfl⟩;have box0 := hL.box;rw [<- hxt, <- hxl, <- hxc] at box0;have HXT := zI hxt;have HXL := zI hxl;have HXC := zI hxc;have HL0 := zI hl0;clear hxt hxl hxc hl0;have y1 := box0.c1;by_cases hin : a + j < ws.length /\ (j = 0 \/ xl = l0)
  · obtain ⟨hlt, h2⟩ := hin
    have hd : decide (a + j < ws.length) = true := decide_eq_true hlt;rw [hd];by_cases hj0 : j = 0
    · have hz : ((j : Int) == 0) = true := by simp [hj0]
      have HJ0 := zI hj0;clear hj0 h2;go_wp2_with fail
      go_quiet (fail)
      generalize hwq : wr.drewN _ = wq;have hbq : Below wr.heap.size wr wq := by rw [<- hwq]; exact below_drewN (Below.refl _ _) _
      clear hwq;have own1 := own_below hL.own hbq;have box1 := box0.below hbq;have mem1 := hL.mem.below h hbq;have p0 := box1.c0;have p1 := box1.c1;have p2 := box1.c2;have hwz := mem1.gr.size;have hnew : wrow ((ws.drop a).take (j + 1)) = wrow ((ws.drop a).take j) ++ [.string (xt), .int .i64 (xl), .int .i64 (xc)] := by rw [HXT.out, HXL.out, HXC.out]; exact Jr0 hlt
      have HNEW := zI hnew;clear hnew
      go_wp2_with (first
       | (at_builtin; refine wpList_append_own _ rfl _ _ 282 rfl w.heap.size 208 i0 (.agg #[.string ByteArray.empty, .int .i64 0, .int .i64 0]) 3 32 Tryz.underlying282 hi hz0 hz1 hz2 rfl (by decide) _ _ _ rfl (own1.alloc _) ⟨wq.heap.size, 0, none⟩ 1 1 [.string (xt), .int .i64 (xl), .int .i64 (xc)] rfl rfl (Jf8 _ _ _ _ _) ?c2 ?c3 ?c4 ?c5 ?_
          case c2 => intro u hu; simp at hu; rcases hu with rfl | rfl | rfl <;> rfl
          case c3 => unfold maxLen; omega
          case c4 => omega
          case c5 => simp; omega
          intro v' w3 hown3 hgrow3 _;rw [<- HNEW.out] at hown3;obtain ⟨A3, c3, rfl, hjc3, _⟩ := own_slice hown3;have hgr3 := hgrow3;have mem3 := (mem1.below h ((Below.refl wq.heap.size wq).alloc (Nat.le_refl _) _)).grown h hgrow3 (fun k e => (own1.lt k e).1);have hwz3 := mem3.gr.size;clear hgrow3)
       | (go_at_call 236; refine (Jrz _ _ _ _ mem3.at_).mono ?_; rw [Jej]; rintro e w4 ⟨rfl, at4, gr4, k4⟩
          have hgne : some g ≠ (Value.slice A3 (j + 1) c3).ownBlock := fun e => by have := (hown3.lt g e.symm).1; omega
          have own4 := hown3.kept gr4 (.inr (Ne.symm hgne));have box4 := (((box0.below hbq).below ((Below.refl wq.heap.size wq).alloc (Nat.le_refl _) _)).grown hgr3 (Ne.symm hL.ne)).grown gr4 (fun e => by injection e with e; have := hL.xge; omega);have s0 := box4.c0;have s1 := box4.c1;have s2 := box4.c2;have hnx : Jml (a + j) ws = a + (j + 1) := by unfold Jml; rw [if_pos hlt]; omega
          rw [hnx] at at4;have mem4 : Jb0 w g (a + (j + 1)) ws w4 := ⟨at4, Jap mem3.gr gr4, k4.trans mem3.k1, at4.f1'.trans h.f1'.symm⟩;have mem5 := mem4.below h ((Below.refl w4.heap.size w4).alloc (Nat.le_refl _) (.cells #[.string (xt), .int .i64 (xl), .int .i64 (xc)] 208));have hwz4 := mem4.gr.size;clear box4 hnx at4 gr4 k4 hgr3)
       | (go_at_call 109; refine (Jei _ _ _ _ mem5.at_).mono ?_; rw [Jej]; rintro e w6 ⟨rfl, hb6⟩
          have box6 := (Box3.new w4 208 (xt) (xl) (xc)).below hb6;have own6 := own_below (own4.alloc _) hb6;have mem6 := mem5.below h hb6;have r0 := box6.c0;have r1 := box6.c1;have r2 := box6.c2;have r3 := box6.f0;have r4 := box6.f1;have r5 := box6.f2))
      go_roundw
      case rel =>
       refine ⟨j + 1, w4.heap.size, rfl, rfl, ⟨hlt, hwz4, box6.set, ?_, ?_, ((mem6.set h hwz4 _).set h hwz4 _).set h hwz4 _, ?_⟩⟩
       · have hn4 : (Value.slice A3 (j + 1) c3).ownBlock ≠ some w4.heap.size := fun e => by have := (own4.lt _ e).2; omega
         exact ownsRow_setCell_other (ownsRow_setCell_other (ownsRow_setCell_other own6 hn4 _) hn4 _) hn4 _
       · exact fun e => by have := (own4.lt _ e).2; omega
       · intro i hi
         rcases Nat.lt_or_ge i j with hij | hij
         · exact hL.all i hij
         · have : i = j := by omega
           subst this;rw [HJ0.out, Nat.add_zero]
      case measure => simp [J3a]; omega
    · have hz3 : (l0 == xl) = true := by rw [h2.resolve_left hj0]; simp
      have H3 := zI (h2.resolve_left hj0);clear h2
      obtain ⟨g2, rfl⟩ : ∃ g2, A = some ⟨g2, 0, none⟩ := by
       rcases hL.own.2 with ⟨e, h0⟩ | ⟨g2, _, _, e, _⟩
       · exact absurd h0 hj0
       · injection e with e; exact ⟨g2, e⟩
      have z1 : wr.cell? ⟨g2, 1, none⟩ = some (.int .i64 (l0)) := (hL.own.cellAt 1 (by omega)).trans (by rw [HL0.out]; exact Jky (by omega) hj0);have hjp : (0 : Int) < (j : Int) := (by omega);have hz : ((j : Int) == 0) = false := beq_eq_false_iff_ne.2 (by omega);go_wp2_with fail
      go_quiet (fail)
      generalize hwq : wr.drewN _ = wq;have hbq : Below wr.heap.size wr wq := by rw [<- hwq]; exact below_drewN (Below.refl _ _) _
      clear hwq;have own1 := own_below hL.own hbq;have box1 := box0.below hbq;have mem1 := hL.mem.below h hbq;have p0 := box1.c0;have p1 := box1.c1;have p2 := box1.c2;have hwz := mem1.gr.size;have hnew : wrow ((ws.drop a).take (j + 1)) = wrow ((ws.drop a).take j) ++ [.string (xt), .int .i64 (xl), .int .i64 (xc)] := by rw [HXT.out, HXL.out, HXC.out]; exact Jr0 hlt
      have HNEW := zI hnew;clear hnew
      go_wp2_with (first
       | (at_builtin; refine wpList_append_own _ rfl _ _ 282 rfl w.heap.size 208 i0 (.agg #[.string ByteArray.empty, .int .i64 0, .int .i64 0]) 3 32 Tryz.underlying282 hi hz0 hz1 hz2 rfl (by decide) _ _ _ rfl (own1.alloc _) ⟨wq.heap.size, 0, none⟩ 1 1 [.string (xt), .int .i64 (xl), .int .i64 (xc)] rfl rfl (Jf8 _ _ _ _ _) ?c2 ?c3 ?c4 ?c5 ?_
          case c2 => intro u hu; simp at hu; rcases hu with rfl | rfl | rfl <;> rfl
          case c3 => unfold maxLen; omega
          case c4 => omega
          case c5 => simp; omega
          intro v' w3 hown3 hgrow3 _;rw [<- HNEW.out] at hown3;obtain ⟨A3, c3, rfl, hjc3, _⟩ := own_slice hown3;have hgr3 := hgrow3;have mem3 := (mem1.below h ((Below.refl wq.heap.size wq).alloc (Nat.le_refl _) _)).grown h hgrow3 (fun k e => (own1.lt k e).1);have hwz3 := mem3.gr.size;clear hgrow3)
       | (go_at_call 236; refine (Jrz _ _ _ _ mem3.at_).mono ?_; rw [Jej]; rintro e w4 ⟨rfl, at4, gr4, k4⟩
          have hgne : some g ≠ (Value.slice A3 (j + 1) c3).ownBlock := fun e => by have := (hown3.lt g e.symm).1; omega
          have own4 := hown3.kept gr4 (.inr (Ne.symm hgne));have box4 := (((box0.below hbq).below ((Below.refl wq.heap.size wq).alloc (Nat.le_refl _) _)).grown hgr3 (Ne.symm hL.ne)).grown gr4 (fun e => by injection e with e; have := hL.xge; omega);have s0 := box4.c0;have s1 := box4.c1;have s2 := box4.c2;have hnx : Jml (a + j) ws = a + (j + 1) := by unfold Jml; rw [if_pos hlt]; omega
          rw [hnx] at at4;have mem4 : Jb0 w g (a + (j + 1)) ws w4 := ⟨at4, Jap mem3.gr gr4, k4.trans mem3.k1, at4.f1'.trans h.f1'.symm⟩;have mem5 := mem4.below h ((Below.refl w4.heap.size w4).alloc (Nat.le_refl _) (.cells #[.string (xt), .int .i64 (xl), .int .i64 (xc)] 208));have hwz4 := mem4.gr.size;clear box4 hnx at4 gr4 k4 hgr3)
       | (go_at_call 109; refine (Jei _ _ _ _ mem5.at_).mono ?_; rw [Jej]; rintro e w6 ⟨rfl, hb6⟩
          have box6 := (Box3.new w4 208 (xt) (xl) (xc)).below hb6;have own6 := own_below (own4.alloc _) hb6;have mem6 := mem5.below h hb6;have r0 := box6.c0;have r1 := box6.c1;have r2 := box6.c2;have r3 := box6.f0;have r4 := box6.f1;have r5 := box6.f2))
      go_roundw
      case rel =>
       refine ⟨j + 1, w4.heap.size, rfl, rfl, ⟨hlt, hwz4, box6.set, ?_, ?_, ((mem6.set h hwz4 _).set h hwz4 _).set h hwz4 _, ?_⟩⟩
       · have hn4 : (Value.slice A3 (j + 1) c3).ownBlock ≠ some w4.heap.size := fun e => by have := (own4.lt _ e).2; omega
         exact ownsRow_setCell_other (ownsRow_setCell_other (ownsRow_setCell_other own6 hn4 _) hn4 _) hn4 _
       · exact fun e => by have := (own4.lt _ e).2; omega
       · intro i hi
         rcases Nat.lt_or_ge i j with hij | hij
         · exact hL.all i hij
         · have : i = j := by omega
           subst this;rw [<- HXL.out, <- HL0.out]; exact H3.out
      case measure => simp [J3a]; omega
  · by_cases hlt : a + j < ws.length
    · have hj0 : j ≠ 0 := fun e => hin ⟨hlt, .inl e⟩
      have hne : ¬ xl = l0 := fun e => hin ⟨hlt, .inr e⟩;have hd : decide (a + j < ws.length) = true := decide_eq_true hlt;rw [hd]
      obtain ⟨g2, rfl⟩ : ∃ g2, A = some ⟨g2, 0, none⟩ := by
       rcases hL.own.2 with ⟨e, h0⟩ | ⟨g2, _, _, e, _⟩
       · exact absurd h0 hj0
       · injection e with e; exact ⟨g2, e⟩
      have z1 : wr.cell? ⟨g2, 1, none⟩ = some (.int .i64 (l0)) := (hL.own.cellAt 1 (by omega)).trans (by rw [HL0.out]; exact Jky (by omega) hj0);have hjp : (0 : Int) < (j : Int) := (by omega);have hz : ((j : Int) == 0) = false := beq_eq_false_iff_ne.2 (by omega);have hz2 : (l0 == xl) = false := by simp; exact fun e => hne e.symm
      have HSTOP := zI (Jjn hL.hj hL.all (fun _ => by rw [<- HXL.out, <- HL0.out]; exact hne));have htk : ((ws.drop a).take j).length = j := by rw [List.length_take, List.length_drop]; omega
      clear hne;go_wp2_with fail
      go_quiet (fail)
      go_wp2_with fail
      go_ret;refine ⟨_, rfl, ?_, ?_⟩
      · rw [HSTOP.out, htk]; exact own_below hL.own (below_drewN (Below.refl _ _) _)
      · rw [HSTOP.out, htk]; exact hL.mem.grown h (Jaa (below_drewN (Below.refl _ _) _) none) (fun k e => by cases e)
    · have hd : decide (a + j < ws.length) = false := decide_eq_false hlt
      have HSTOP := zI (Jjn hL.hj hL.all (fun h => absurd h hlt));have htk : ((ws.drop a).take j).length = j := by rw [List.length_take, List.length_drop]; omega
      rw [hd];go_wp2_with fail
      go_quiet (fail)
      go_wp2_with fail
      go_ret;refine ⟨_, rfl, ?_, ?_⟩
      · rw [HSTOP.out, htk]; exact own_below hL.own (below_drewN (Below.refl _ _) _)
      · rw [HSTOP.out, htk]; exact hL.mem.grown h (Jaa (below_drewN (Below.refl _ _) _) none) (fun k e => by cases e)
def digB (c : UInt8) : Bool := decide (48 <= c.toNat) && decide (c.toNat <= 57)
def numN (l : List UInt8) : Nat := l.foldl (fun n c => 10 * n + (c.toNat - 48)) 0
theorem Je8 (l : List UInt8) (c : UInt8) : numN (l ++ [c]) = 10 * numN l + (c.toNat - 48) := by simp [numN, List.foldl_append]
def Jet (d : List UInt8) (below : Bool) : Bool := decide (d.length = 0) || (decide (18 < d.length) || (d.head? == some 48 && (decide (1 < d.length) || below)))
def numR (s : List UInt8) : Option Int :=
 if Jet (Lib.trimPrefix s [45]) (Lib.hasPrefix s [45]) = true then none
 else if (Lib.trimPrefix s [45]).all digB = true then some (if Lib.hasPrefix s [45] = true then -(numN (Lib.trimPrefix s [45]) : Int) else numN (Lib.trimPrefix s [45]))
 else none
def numV : Option Int -> Value
 | some n => .tuple #[.int .i64 n, .int .i64 0]
 | none => .tuple #[.int .i64 0, .int .i64 1]
theorem Jgi : ∀ (l : List UInt8), l.all digB = true -> numN l < 10 ^ l.length := by
 intro l;obtain ⟨m, rfl⟩ : ∃ m : List UInt8, l = m.reverse := ⟨l.reverse, by simp⟩
 induction m with
 | nil => intro _; simp [numN]
 | cons c r ih =>
   intro h;rw [List.reverse_cons, List.all_append, Bool.and_eq_true] at h;have h1 := ih h.1;have h2 : digB c = true := by simpa using h.2
   unfold digB at h2;simp only [Bool.and_eq_true, decide_eq_true_eq] at h2;rw [List.reverse_cons, Je8, List.length_append, List.length_cons, List.length_nil, Nat.zero_add, Nat.pow_succ];omega
theorem J3b {s : List UInt8} {n : Int} (h : numR s = some n) : -1000000000000000000 < n /\ n < 1000000000000000000 := by
 unfold numR at h;split at h
 · cases h
 · next hb =>
   split at h
   · next ha =>
     have h1 := Jgi _ ha
     have h18 : (Lib.trimPrefix s [45]).length <= 18 := by
      unfold Jet at hb;simp only [Bool.or_eq_true, decide_eq_true_eq, not_or] at hb;omega
     have h2 : 10 ^ (Lib.trimPrefix s [45]).length <= 10 ^ 18 := Nat.pow_le_pow_right (by omega) h18;have h3 : (10 : Nat) ^ 18 = 1000000000000000000 := (by decide);injection h with h;split at h <;> omega
   · cases h
def Jcu : List UInt8 := [112, 111, 108, 105, 99, 121]
def Jgj : List UInt8 := [116, 105, 101, 114]
def Jcc : List UInt8 := [101, 118, 101, 114, 121]
def Jev : List UInt8 := [107, 101, 101, 112]
def Jbn : List UInt8 := [115, 104, 97, 114, 100, 115]
def txt (g : List (List UInt8)) (i : Nat) : List UInt8 := g.getD i []
def txts (l : List Wd) : List (List UInt8) := l.map Wd.text
theorem J18 {l : List Wd} {i : Nat} (h : i < l.length) : txt (txts l) i = l[i].text := by simp [txt, txts, List.getD, List.getElem?_eq_getElem h]
def Jg6 (g : List (List UInt8)) (i : Nat) (what : List UInt8) : Bool := (txt g i == what) && (numR (txt g (i + 1))).isSome
def Jg7 (g : List (List UInt8)) (i : Nat) : Int := (numR (txt g (i + 1))).getD 0
def Jeu (g : List (List UInt8)) : Bool := decide (g.length = 2) && (txt g 0 == Jcu)
def Jcw (g : List (List UInt8)) (n : Nat) : Bool := (decide (g.length = 8) && ((txt g 0 == Jgj) && !decide (n = 5))) && (Jg6 g 2 Jcc && (Jg6 g 4 Jev && Jg6 g 6 Jbn))
def Jmm (g : List (List UInt8)) : Ti := ⟨⟨(txt g 1).toArray⟩, Jg7 g 2, Jg7 g 4, Jg7 g 6⟩
def Jdb (l : List Wd) : List Wd := match l with
 | [] => []
 | x :: _ => l.takeWhile (fun y => decide (y.line = x.line))
def Jr1 (l : List Wd) : List Wd := l.drop (Jdb l).length
inductive Rd where
 | bad (e at_ : Int)
 | good (nm : List UInt8) (ts : List Ti)
def Jcd (l : List Wd) : Int := match l with
 | [] => 1
 | x :: _ => x.line
def Jf9 (nm : List UInt8) : Nat -> List Wd -> List Ti -> Rd
 | 0, _, acc => .good nm acc
 | f + 1, l, acc => if l = [] then .good nm acc else if Jcw (txts (Jdb l)) acc.length = true then Jf9 nm f (Jr1 l) (acc ++ [Jmm (txts (Jdb l))]) else .bad 22 (Jcd l)
def Jcx (l : List Wd) : Rd := if Jeu (txts (Jdb l)) = true then Jf9 (txt (txts (Jdb l)) 1) l.length (Jr1 l) [] else .bad 22 (Jcd l)
def Jdc (s : ByteArray) : Rd :=
 if 4000 < s.size then .bad 2 0 else if cutE 1 (Jbx s) ≠ 0 then .bad 22 (cutE 1 (Jbx s)) else Jcx (cutW 1 (Jbx s))
theorem Jtq (l : List Wd) (h : l ≠ []) : 1 <= (Jdb l).length := by
 match l, h with
 | x :: r, _ => unfold Jdb; simp
theorem Jmn (g : List (List UInt8)) (i : Nat) : -9223372036854775808 <= Jg7 g i /\ Jg7 g i <= 9223372036854775807 := by
 unfold Jg7;cases h : numR (txt g (i + 1)) with
 | none => simp
 | some n => have := J3b h; simp; omega
theorem Jk0 {c : UInt8} (h : (c.toNat : Int) < 48 \/ 57 < (c.toNat : Int)) : digB c = false := by
 unfold digB;rcases h with h | h
 · rw [decide_eq_false (by omega)]; rfl
 · rw [decide_eq_false (show ¬ c.toNat <= 57 by omega)]; simp
theorem Jqc {c : UInt8} (h1 : 48 <= (c.toNat : Int)) (h2 : (c.toNat : Int) <= 57) : digB c = true := by
 unfold digB;rw [decide_eq_true (by omega), decide_eq_true (by omega)]; rfl
theorem Jhx {s : ByteArray} {k : Nat} (h : k < s.size) (hb : digB s[k] = false) : s.toList.all digB = false := by
 cases hh : s.toList.all digB
 · rfl
 · rw [List.all_eq_true] at hh
   have := hh _ (List.mem_of_getElem? (Jfk s k h)); rw [hb] at this; cases this
theorem Je9 {s : ByteArray} {k : Nat} (h : k < s.size) (ha : (s.toList.take k).all digB = true) (hb : digB s[k] = true) : (s.toList.take (k + 1)).all digB = true := by
 rw [Jb2 s k h, List.all_append, ha]; simp [hb]
theorem J3c {s : ByteArray} (h : 0 < s.size) : s.toList.head? = some s[0] := by
 rw [List.head?_eq_getElem?, Jfk s 0 h]
theorem J0k {s d : List UInt8} {b : Bool} (hd : Lib.trimPrefix s [45] = d) (hb : Lib.hasPrefix s [45] = b) (h : Jet d b = true) : numR s = none := by
 unfold numR; rw [hd, hb, if_pos h]
theorem J0l {s d : List UInt8} {b : Bool} (hd : Lib.trimPrefix s [45] = d) (hb : Lib.hasPrefix s [45] = b) (h : d.all digB = false) : numR s = none := by
 unfold numR; rw [hd, hb]; split
 · rfl
 · rw [if_neg (by rw [h]; decide)]
theorem J3d {s d : List UInt8} {b : Bool} (hd : Lib.trimPrefix s [45] = d) (hb : Lib.hasPrefix s [45] = b) (h : Jet d b = false) (h2 : d.all digB = true) : numR s = some (if b = true then -(numN d : Int) else numN d) := by
 unfold numR; rw [hd, hb, if_neg (by rw [h]; decide), if_pos h2]
theorem int_eq {k : IntKind} {a b : Int} (h : a = b) : Value.int k a = .int k b := by rw [h]
theorem Jqd {a b : Option Int} (h : a = b) : numV a = numV b := by rw [h]
theorem Jtr (s : ByteArray) (w : World) :
  Calls Tryz.prog 237 #[.string s] w fun e w' => e = .returned (numV (numR s.toList)) /\ w = w' := by
 obtain ⟨d, hd⟩ : ∃ d : ByteArray, d = ⟨(Lib.trimPrefix s.data.toList [45]).toArray⟩ := ⟨_, rfl⟩;obtain ⟨b, hb⟩ : ∃ b, b = Lib.hasPrefix s.data.toList [45] := ⟨_, rfl⟩;have hdl : Lib.trimPrefix s.toList [45] = d.toList := by rw [hd, ByteArray.toList_eq, ByteArray.toList_eq]
 have hbl : Lib.hasPrefix s.toList [45] = b := by rw [hb, ByteArray.toList_eq]
 have HBAD := zI (fun h => Jqd (J0k hdl hbl h));have HNOT := zI (fun h => Jqd (J0l hdl hbl h));have HIS := zI (fun h h2 => Jqd (J3d hdl hbl h h2));have HC := zI (fun W => Tryz.strings_CutPrefix s ⟨#[45]⟩ W)
 have HCC : Hid (∀ W, Calls Tryz.prog 276 #[.string s, .string ⟨#[45]⟩] W fun e w' => e = .returned (.tuple #[.string d, .bool b]) /\ W = w') := zI (fun W => by
  rw [hd, hb];exact (HC.out W).mono fun e w' h => by first | exact ⟨h.1, h.2.symm⟩ | exact ⟨h.1, h.2⟩)
 have hlen : d.toList.length = d.size := Jab d;clear hdl hbl hd hb HC;by_cases h0 : d.size = 0
 · have HF := zI (HBAD.out (by unfold Jet; rw [hlen, h0]; rfl))
   go_enter Tryz.func237, Tryz.ntmps237;go_wp2_with (go_at_call 276; refine (HCC.out _).mono ?_; rintro e w1 ⟨rfl, rfl⟩)
   go_ret2;exact ⟨by rw [HF.out]; rfl, rfl⟩
 by_cases h18 : 18 < d.size
 · have HF := zI (HBAD.out (by unfold Jet; rw [hlen, decide_eq_true h18]; simp))
   have h0' : ((d.size : Int) == 0) = false := beq_eq_false_iff_ne.2 (by omega);go_enter Tryz.func237, Tryz.ntmps237;go_wp2_with (go_at_call 276; refine (HCC.out _).mono ?_; rintro e w1 ⟨rfl, rfl⟩)
   go_ret2;exact ⟨by rw [HF.out]; rfl, rfl⟩
 have hp : 0 < d.size := by omega
 have hh := J3c hp;by_cases hz : Jet d.toList b = true
 · have HF := zI (HBAD.out hz)
   have h48 : (d[0].toNat : Int) = 48 /\ (1 < d.size \/ b = true) := by
    unfold Jet at hz;rw [hlen, hh, decide_eq_false h0, decide_eq_false h18] at hz;simp only [Bool.false_or, Bool.and_eq_true, Bool.or_eq_true, decide_eq_true_eq, beq_iff_eq, Option.some.injEq] at hz;exact ⟨by rw [hz.1]; rfl, hz.2⟩
   obtain ⟨h48, h1⟩ := h48;clear hz;go_enter Tryz.func237, Tryz.ntmps237;cases b
   · have h1' : 1 < d.size := by simpa using h1
     go_wp2_with (go_at_call 276; refine (HCC.out _).mono ?_; rintro e w1 ⟨rfl, rfl⟩)
     go_ret2;exact ⟨by rw [HF.out]; rfl, rfl⟩
   · by_cases h1' : 1 < d.size
     all_goals
      go_wp2_with (go_at_call 276; refine (HCC.out _).mono ?_; rintro e w1 ⟨rfl, rfl⟩)
      go_ret2;exact ⟨by rw [HF.out]; rfl, rfl⟩
 have hz' : Jet d.toList b = false := by simpa using hz
 clear hz
 have hok : ¬ (d[0].toNat : Int) = 48 \/ (¬ 1 < d.size /\ b = false) := by
  have h2 := hz';unfold Jet at h2;rw [hlen, hh, decide_eq_false h0, decide_eq_false h18] at h2;simp only [Bool.false_or, Bool.and_eq_false_iff, Bool.or_eq_false_iff, decide_eq_false_iff_not, beq_eq_false_iff_ne, ne_eq, Option.some.injEq] at h2;rcases h2 with h2 | h2
  · exact .inl (fun e => h2 (UInt8.toNat_inj.1 (by have : (48 : UInt8).toNat = 48 := rfl; omega)))
  · exact .inr h2
 have HZ := zI hz';clear hz' hh;have z0 : ((d.size : Int) == 0) = false := beq_eq_false_iff_ne.2 (by omega);have z18 : decide (18 < (d.size : Int)) = false := decide_eq_false (by omega);have HOK := zI hok;clear hok;go_enter Tryz.func237, Tryz.ntmps237;cases b
 · have hor : ¬ (d[0].toNat : Int) = 48 \/ (¬ 1 < d.size /\ (d[0].toNat : Int) = 48) := by
    by_cases h48 : (d[0].toNat : Int) = 48
    · rcases HOK.out with h | h
      · exact absurd h48 h
      · exact .inr ⟨h.1, h48⟩
    · exact .inl h48
   clear HOK;rcases hor with h48 | ⟨h1, h48⟩
   · have h48' : ((d[0].toNat : Int) == 48) = false := beq_eq_false_iff_ne.2 h48
     go_wp2_with (go_at_call 276; refine (HCC.out _).mono ?_; rintro e w1 ⟨rfl, rfl⟩)
     go_loop [6, 7, 36] (fun n _ i => ∃ k : Nat, k <= d.size /\ i = .int .i64 k /\ n = .int .i64 (numN (d.toList.take k)) /\ (d.toList.take k).all digB = true) (fun _ _ i => d.size - (intOf i).toNat)
     case atStart => exact ⟨0, Nat.zero_le _, rfl, rfl, rfl⟩
     case round =>
      obtain ⟨k, hk, rfl, rfl, hall⟩ := hrel;have HA := zI hall;by_cases hlt : k < d.size
      · have HS := zI (Jb2 d k hlt)
        have hlim := Jgi _ hall;have hlk : (d.toList.take k).length = k := by rw [List.length_take, Jab]; omega
        rw [hlk] at hlim;have hpow : 10 ^ k <= 10 ^ 17 := Nat.pow_le_pow_right (by omega) (by omega);have h17 : (10 : Nat) ^ 17 = 100000000000000000 := (by decide);rw [h17] at hpow;have hu : d[k].toNat <= 255 := by have := d[k].toNat_lt; omega
        have HN := zI (Je8 (d.toList.take k) d[k]);have HYES := zI (fun hb => Je9 hlt HA.out hb);have HNO := zI (fun hb => HNOT.out (Jhx hlt hb));obtain ⟨q, hq⟩ : ∃ q, numN (d.toList.take k) = q := ⟨_, rfl⟩;rw [hq] at hlim;rw [hq];have HQ := zI hq;clear hall hlk h17 hq;by_cases a : (d[k].toNat : Int) < 48
        · have HF := zI (HNO.out (Jk0 (.inl a)))
          clear HYES HNO;go_wp2;go_ret2;exact ⟨by rw [HF.out]; rfl, rfl⟩
        by_cases c : 57 < (d[k].toNat : Int)
        · have HF := zI (HNO.out (Jk0 (.inr c)))
          clear HYES HNO;go_wp2;go_ret2;exact ⟨by rw [HF.out]; rfl, rfl⟩
        have HY := zI (HYES.out (Jqc (by omega) (by omega)));have hw1 : IntKind.u8.wrap ((d[k].toNat : Int) - 48) = (d[k].toNat : Int) - 48 := by simp [IntKind.wrap, IntKind.bits, IntKind.signed]; omega
        have hw2 : IntKind.i64.wrap (10 * (q : Int)) = 10 * (q : Int) := IntWalk.i64_in _ (by omega);have hw3 : IntKind.i64.wrap ((d[k].toNat : Int) - 48) = (d[k].toNat : Int) - 48 := IntWalk.i64_in _ (by omega);have hw4 : IntKind.i64.wrap (10 * (q : Int) + ((d[k].toNat : Int) - 48)) = 10 * (q : Int) + ((d[k].toNat : Int) - 48) := IntWalk.i64_in _ (by omega);clear HYES HNO;go_wp2;go_round
        case rel =>
         refine ⟨k + 1, by omega, by go_num, ?_, HY.out⟩;rw [HS.out, HN.out, HQ.out];exact int_eq (by omega)
        case measure => simp [intOf]; omega
      · have HALL := zI (show d.toList.all digB = true from by rwa [List.take_of_length_le (by rw [Jab]; omega)] at hall)
        have hd : decide ((k : Int) < (d.size : Int)) = false := decide_eq_false (by omega);have HF := zI (HIS.out HZ.out HALL.out);have HT := zI (show d.toList.take k = d.toList from List.take_of_length_le (by rw [Jab]; omega));have hlim := Jgi _ HALL.out;rw [Jab] at hlim;have hpow : 10 ^ d.size <= 10 ^ 18 := Nat.pow_le_pow_right (by omega) (by omega);have h18' : (10 : Nat) ^ 18 = 1000000000000000000 := (by decide);rw [h18'] at hpow;rw [HT.out];obtain ⟨q, hq⟩ : ∃ q, numN d.toList = q := ⟨_, rfl⟩;rw [hq] at hlim HF ⊢;have hw1 : IntKind.i64.wrap (-(q : Int)) = -(q : Int) := IntWalk.i64_in _ (by omega);clear hall h18' hq;go_wp2;go_ret2;exact ⟨by rw [HF.out]; rfl, rfl⟩
   · have z1 : decide (1 < (d.size : Int)) = false := decide_eq_false (by omega)
     go_wp2_with (go_at_call 276; refine (HCC.out _).mono ?_; rintro e w1 ⟨rfl, rfl⟩)
     go_loop [6, 7, 36] (fun n _ i => ∃ k : Nat, k <= d.size /\ i = .int .i64 k /\ n = .int .i64 (numN (d.toList.take k)) /\ (d.toList.take k).all digB = true) (fun _ _ i => d.size - (intOf i).toNat)
     case atStart => exact ⟨0, Nat.zero_le _, rfl, rfl, rfl⟩
     case round =>
      obtain ⟨k, hk, rfl, rfl, hall⟩ := hrel;have HA := zI hall;by_cases hlt : k < d.size
      · have HS := zI (Jb2 d k hlt)
        have hlim := Jgi _ hall;have hlk : (d.toList.take k).length = k := by rw [List.length_take, Jab]; omega
        rw [hlk] at hlim;have hpow : 10 ^ k <= 10 ^ 17 := Nat.pow_le_pow_right (by omega) (by omega);have h17 : (10 : Nat) ^ 17 = 100000000000000000 := (by decide);rw [h17] at hpow;have hu : d[k].toNat <= 255 := by have := d[k].toNat_lt; omega
        have HN := zI (Je8 (d.toList.take k) d[k]);have HYES := zI (fun hb => Je9 hlt HA.out hb);have HNO := zI (fun hb => HNOT.out (Jhx hlt hb));obtain ⟨q, hq⟩ : ∃ q, numN (d.toList.take k) = q := ⟨_, rfl⟩;rw [hq] at hlim;rw [hq];have HQ := zI hq;clear hall hlk h17 hq;by_cases a : (d[k].toNat : Int) < 48
        · have HF := zI (HNO.out (Jk0 (.inl a)))
          clear HYES HNO;go_wp2;go_ret2;exact ⟨by rw [HF.out]; rfl, rfl⟩
        by_cases c : 57 < (d[k].toNat : Int)
        · have HF := zI (HNO.out (Jk0 (.inr c)))
          clear HYES HNO;go_wp2;go_ret2;exact ⟨by rw [HF.out]; rfl, rfl⟩
        have HY := zI (HYES.out (Jqc (by omega) (by omega)));have hw1 : IntKind.u8.wrap ((d[k].toNat : Int) - 48) = (d[k].toNat : Int) - 48 := by simp [IntKind.wrap, IntKind.bits, IntKind.signed]; omega
        have hw2 : IntKind.i64.wrap (10 * (q : Int)) = 10 * (q : Int) := IntWalk.i64_in _ (by omega);have hw3 : IntKind.i64.wrap ((d[k].toNat : Int) - 48) = (d[k].toNat : Int) - 48 := IntWalk.i64_in _ (by omega);have hw4 : IntKind.i64.wrap (10 * (q : Int) + ((d[k].toNat : Int) - 48)) = 10 * (q : Int) + ((d[k].toNat : Int) - 48) := IntWalk.i64_in _ (by omega);clear HYES HNO;go_wp2;go_round
        case rel =>
         refine ⟨k + 1, by omega, by go_num, ?_, HY.out⟩;rw [HS.out, HN.out, HQ.out];exact int_eq (by omega)
        case measure => simp [intOf]; omega
      · have HALL := zI (show d.toList.all digB = true from by rwa [List.take_of_length_le (by rw [Jab]; omega)] at hall)
        have hd : decide ((k : Int) < (d.size : Int)) = false := decide_eq_false (by omega);have HF := zI (HIS.out HZ.out HALL.out);have HT := zI (show d.toList.take k = d.toList from List.take_of_length_le (by rw [Jab]; omega));have hlim := Jgi _ HALL.out;rw [Jab] at hlim;have hpow : 10 ^ d.size <= 10 ^ 18 := Nat.pow_le_pow_right (by omega) (by omega);have h18' : (10 : Nat) ^ 18 = 1000000000000000000 := (by decide);rw [h18'] at hpow;rw [HT.out];obtain ⟨q, hq⟩ : ∃ q, numN d.toList = q := ⟨_, rfl⟩;rw [hq] at hlim HF ⊢;have hw1 : IntKind.i64.wrap (-(q : Int)) = -(q : Int) := IntWalk.i64_in _ (by omega);clear hall h18' hq;go_wp2;go_ret2;exact ⟨by rw [HF.out]; rfl, rfl⟩
 · have h48 : ¬ (d[0].toNat : Int) = 48 := by
    rcases HOK.out with h | h
    · exact h
    · exact absurd h.2 (by decide)
   have h48' : ((d[0].toNat : Int) == 48) = false := beq_eq_false_iff_ne.2 h48;clear HOK;go_wp2_with (go_at_call 276; refine (HCC.out _).mono ?_; rintro e w1 ⟨rfl, rfl⟩)
   go_loop [6, 7, 36] (fun n _ i => ∃ k : Nat, k <= d.size /\ i = .int .i64 k /\ n = .int .i64 (numN (d.toList.take k)) /\ (d.toList.take k).all digB = true) (fun _ _ i => d.size - (intOf i).toNat)
   case atStart => exact ⟨0, Nat.zero_le _, rfl, rfl, rfl⟩
   case round =>
    obtain ⟨k, hk, rfl, rfl, hall⟩ := hrel;have HA := zI hall;by_cases hlt : k < d.size
    · have HS := zI (Jb2 d k hlt)
      have hlim := Jgi _ hall;have hlk : (d.toList.take k).length = k := by rw [List.length_take, Jab]; omega
      rw [hlk] at hlim;have hpow : 10 ^ k <= 10 ^ 17 := Nat.pow_le_pow_right (by omega) (by omega);have h17 : (10 : Nat) ^ 17 = 100000000000000000 := (by decide);rw [h17] at hpow;have hu : d[k].toNat <= 255 := by have := d[k].toNat_lt; omega
      have HN := zI (Je8 (d.toList.take k) d[k]);have HYES := zI (fun hb => Je9 hlt HA.out hb);have HNO := zI (fun hb => HNOT.out (Jhx hlt hb));obtain ⟨q, hq⟩ : ∃ q, numN (d.toList.take k) = q := ⟨_, rfl⟩;rw [hq] at hlim;rw [hq];have HQ := zI hq;clear hall hlk h17 hq;by_cases a : (d[k].toNat : Int) < 48
      · have HF := zI (HNO.out (Jk0 (.inl a)))
        clear HYES HNO;go_wp2;go_ret2;exact ⟨by rw [HF.out]; rfl, rfl⟩
      by_cases c : 57 < (d[k].toNat : Int)
      · have HF := zI (HNO.out (Jk0 (.inr c)))
        clear HYES HNO;go_wp2;go_ret2;exact ⟨by rw [HF.out]; rfl, rfl⟩
      have HY := zI (HYES.out (Jqc (by omega) (by omega)));have hw1 : IntKind.u8.wrap ((d[k].toNat : Int) - 48) = (d[k].toNat : Int) - 48 := by simp [IntKind.wrap, IntKind.bits, IntKind.signed]; omega
      have hw2 : IntKind.i64.wrap (10 * (q : Int)) = 10 * (q : Int) := IntWalk.i64_in _ (by omega);have hw3 : IntKind.i64.wrap ((d[k].toNat : Int) - 48) = (d[k].toNat : Int) - 48 := IntWalk.i64_in _ (by omega);have hw4 : IntKind.i64.wrap (10 * (q : Int) + ((d[k].toNat : Int) - 48)) = 10 * (q : Int) + ((d[k].toNat : Int) - 48) := IntWalk.i64_in _ (by omega);clear HYES HNO;go_wp2;go_round
      case rel =>
       refine ⟨k + 1, by omega, by go_num, ?_, HY.out⟩;rw [HS.out, HN.out, HQ.out];exact int_eq (by omega)
      case measure => simp [intOf]; omega
    · have HALL := zI (show d.toList.all digB = true from by rwa [List.take_of_length_le (by rw [Jab]; omega)] at hall)
      have hd : decide ((k : Int) < (d.size : Int)) = false := decide_eq_false (by omega);have HF := zI (HIS.out HZ.out HALL.out);have HT := zI (show d.toList.take k = d.toList from List.take_of_length_le (by rw [Jab]; omega));have hlim := Jgi _ HALL.out;rw [Jab] at hlim;have hpow : 10 ^ d.size <= 10 ^ 18 := Nat.pow_le_pow_right (by omega) (by omega);have h18' : (10 : Nat) ^ 18 = 1000000000000000000 := (by decide);rw [h18'] at hpow;rw [HT.out];obtain ⟨q, hq⟩ : ∃ q, numN d.toList = q := ⟨_, rfl⟩;rw [hq] at hlim HF ⊢;have hw1 : IntKind.i64.wrap (-(q : Int)) = -(q : Int) := IntWalk.i64_in _ (by omega);clear hall h18' hq;go_wp2;go_ret2;exact ⟨by rw [HF.out]; rfl, rfl⟩
theorem Jts (n : Int) (w : World) (h0 : -9223372036854775808 <= n) (h1 : n <= 9223372036854775807) (htab : Lib.TabIs Tryz.prog w "internal/strconv.uint64pow10" .u64 Lib.pow10Tab) :
  Calls Tryz.prog 247 #[.int .i64 n] w fun e w' => e = .returned (.string ⟨(Lib.itoa n).toArray⟩) /\ Below w.heap.size w w' := by
 go_enter Tryz.func247, Tryz.ntmps247;go_wp2_with (go_at_call 279; refine (Tryz.strconv_Itoa n h0 h1 _ htab).mono ?_; rintro e w1 ⟨rfl, k, os, rfl⟩)
 go_ret;exact ⟨rfl, Lib.below_grow _ _ (Nat.le_refl _) _ _⟩
end Go.Proofs.YtalkkhafcfhglaaGreatDoor.Py
