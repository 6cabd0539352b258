/-
  Several texts in one: WordCutP, WordTakeP.
-/
import Derived.Laws.AppendOwnNone
import Derived.Test.YtalkkhafcfhglaaGreatDoorQ16
set_option maxRecDepth 100000
set_option maxHeartbeats 4000000
namespace Go.Proofs.YtalkkhafcfhglaaGreatDoor.Py
open Go.RowKit
structure Ja6 (w : World) (g : Nat) (at_ : Nat) (ws : List Wd) : Prop where
 lt : g < w.heap.size
 few : ws.length <= 16004000
 le : at_ <= ws.length
 c0 : w.cell? ⟨g, 0, none⟩ = some (.int .i64 at_)
 f0 : w.frozen? ⟨g, 0, none⟩ = false
 c1 : ∃ A c, w.cell? ⟨g, 1, none⟩ = some (.slice A ws.length c) /\ w.frozen? ⟨g, 1, none⟩ = false /\ Sl w A (wrow ws) /\ ws.length <= c /\ (∀ b off, A = some ⟨b, off, none⟩ -> b ≠ g)
theorem Ja6.f1' {w : World} {g a : Nat} {ws : List Wd} (h : Ja6 w g a ws) : w.frozen? ⟨g, 1, none⟩ = false := by obtain ⟨_, _, _, h2, _⟩ := h.c1; exact h2
theorem Ja6.below {w w' : World} {g a : Nat} {ws : List Wd} (h : Ja6 w g a ws) (hb : Below w.heap.size w w') : Ja6 w' g a ws := by
 obtain ⟨A, c, h1, h2, h3, h4, h5⟩ := h.c1
 exact ⟨Nat.lt_of_lt_of_le h.lt hb.size, h.few, h.le, (hb.cell (p := ⟨g, 0, none⟩) h.lt).trans h.c0, (hb.frozen (p := ⟨g, 0, none⟩) h.lt).trans h.f0,
  A, c, (hb.cell (p := ⟨g, 1, none⟩) h.lt).trans h1, (hb.frozen (p := ⟨g, 1, none⟩) h.lt).trans h2, h3.below hb, h4, h5⟩
def J28 (s : ByteArray) (w : World) (e : Ending) (w' : World) : Prop :=
 Below w.heap.size w w' /\
 ((4000 < s.size /\ e = .returned (.tuple #[.pointer none, .int .i64 2, .int .i64 0])) \/
  (s.size <= 4000 /\ cutE 1 (Jbx s) ≠ 0 /\ e = .returned (.tuple #[.pointer none, .int .i64 22, .int .i64 (cutE 1 (Jbx s))])) \/
  (s.size <= 4000 /\ cutE 1 (Jbx s) = 0 /\ ∃ g, w.heap.size <= g /\ e = .returned (.tuple #[.pointer (some ⟨g, 0, none⟩), .int .i64 0, .int .i64 0]) /\ Ja6 w' g 0 (cutW 1 (Jbx s))))
theorem Jap {a b c : World} {row : Option Nat} (h : a.grownBy b row) (k : b.grownBy c row) : a.grownBy c row :=
 ⟨k.os.trans h.os, k.tape.trans h.tape, k.output.trans h.output, Nat.le_trans h.size k.size, fun i hi hne => (k.block i (Nat.lt_of_lt_of_le hi h.size) hne).trans (h.block i hi hne)⟩
theorem Jaa {a b : World} (h : Below a.heap.size a b) (row : Option Nat) : a.grownBy b row := ⟨h.os, h.tape, h.output, h.size, fun i hi _ => h.block i hi⟩
structure Joj (w2 : World) (g : Nat) (ws : List Wd) (v : Value) (wr : World) : Prop where
 gr : w2.grownBy wr (some g)
 c0 : wr.cell? ⟨g, 0, none⟩ = some (.int .i64 0)
 f0 : wr.frozen? ⟨g, 0, none⟩ = false
 c1 : wr.cell? ⟨g, 1, none⟩ = some v
 f1 : wr.frozen? ⟨g, 1, none⟩ = false
 own : wr.ownsRow w2.heap.size 208 3 v ws.length (wrow ws)
theorem Joj.below {w2 : World} {g : Nat} {ws : List Wd} {v : Value} {wr w' : World} (h : Joj w2 g ws v wr) (hg : g < w2.heap.size) (hb : Below wr.heap.size wr w') : Joj w2 g ws v w' := by
 have hlt : g < wr.heap.size := Nat.lt_of_lt_of_le hg h.gr.size
 exact ⟨Jap h.gr (Jaa hb _), (hb.cell (p := ⟨g, 0, none⟩) hlt).trans h.c0, (hb.frozen (p := ⟨g, 0, none⟩) hlt).trans h.f0,
  (hb.cell (p := ⟨g, 1, none⟩) hlt).trans h.c1, (hb.frozen (p := ⟨g, 1, none⟩) hlt).trans h.f1, own_below h.own hb⟩
theorem Joj.put {w2 : World} {g : Nat} {ws ws' : List Wd} {v v' : Value} {wr w3 : World} (h : Joj w2 g ws v wr) (hg : g < w2.heap.size) (hgr : wr.grownBy w3 v.ownBlock)
  (hown : w3.ownsRow w2.heap.size 208 3 v' ws'.length (wrow ws')) : Joj w2 g ws' v' (w3.setCell ⟨g, 1, none⟩ v') := by
 have hlt : g < wr.heap.size := Nat.lt_of_lt_of_le hg h.gr.size;have hne : some g ≠ Value.ownBlock _ := fun e => by have := (h.own.lt g e.symm).1; omega
 have hbl := hgr.block g hlt hne;have e1 : w3.cell? ⟨g, 1, none⟩ = some v := (World.cell?_of_block (a := ⟨g, 1, none⟩) hbl).trans h.c1;refine ⟨⟨hgr.os.trans h.gr.os, hgr.tape.trans h.gr.tape, hgr.output.trans h.gr.output, by have := h.gr.size; have := hgr.size; simp; omega, fun k hk hkn => ?_⟩, ?_, ?_, ?_, ?_, ?_⟩
 · rw [Below.heap_setCell _ _ _ _ (fun e => hkn (by rw [e])), hgr.block k (Nat.lt_of_lt_of_le hk h.gr.size) (fun e => by have := (h.own.lt k e.symm).1; omega)]
   exact h.gr.block k hk hkn
 · rw [World.cell?_setCell_other _ _ _ _ (by simp)]; exact (World.cell?_of_block (a := ⟨g, 0, none⟩) hbl).trans h.c0
 · rw [World.frozen?_setCell]; exact (World.frozen?_of_block (a := ⟨g, 0, none⟩) hbl).trans h.f0
 · exact World.cell?_setCell_same _ _ _ e1
 · rw [World.frozen?_setCell]; exact (World.frozen?_of_block (a := ⟨g, 1, none⟩) hbl).trans h.f1
 · exact ownsRow_setCell_other hown (fun e => by have := (hown.lt g e).1; omega) v'
theorem J0j (l : List Wd) : ∀ u ∈ wrow l, u.oneCell' = true := by
 intro u hu;obtain ⟨x, _, hx⟩ := List.mem_flatMap.1 hu;simp [Jg1] at hx;rcases hx with rfl | rfl | rfl <;> rfl
theorem Jry {L : List (List UInt8)} {k : Nat} {x : List UInt8} (h : L.take (k + 1) = L.take k ++ [x]) (ha : ∀ l ∈ L.take k, l.all okB = true) (hx : x.all okB = true) : ∀ l ∈ L.take (k + 1), l.all okB = true := by
 rw [h];intro l hl;rcases List.mem_append.1 hl with hl | hl
 · exact ha l hl
 · simp only [List.mem_singleton] at hl; subst hl; exact hx
theorem Jci (s : ByteArray) (w : World) (hs : s.size <= 281474976710656) : Calls Tryz.prog 39 #[.string s] w fun e w' => e = .returned (.string s) /\ Below w.heap.size w w' := by
 go_enter Tryz.func39, Tryz.ntmps39
 go_wp2_with (first
   | (go_at_call 80; refine (Tryz.stringslite_Clone s _ (by omega)).mono ?_; rintro e w1 ⟨rfl, hb1⟩))
 go_ret;exact ⟨rfl, hb1⟩
theorem J29 (s : ByteArray) (w : World) (hs : s.size <= maxLen) (hm : ∃ m : Int, w.cell? ⟨0, 0, none⟩ = some (.int .i64 m)) :
  Calls Tryz.prog 107 #[.string s] w (J28 s w) := by
 unfold maxLen at hs;by_cases h4 : 4000 < s.size
 · go_enter Tryz.func107, Tryz.ntmps107
   go_wp2_with fail
   go_ret3
   exact ⟨Below.refl _ _, .inl ⟨h4, rfl⟩⟩
 · obtain ⟨i0, hi, hz0, hz1, hz2⟩ := info_parts Jjj
   obtain ⟨mx, hmx⟩ := hm;have hlt0 : 0 < w.heap.size := by have := block_lt_of_cell hmx; simpa using this
   go_enter Tryz.func107, Tryz.ntmps107;have hc0 : (w.alloc (.cells #[.int .i64 0, .slice none 0 0] 284)).cell? ⟨0, 0, none⟩ = some (.int .i64 mx) := (World.cell?_alloc_past _ 0 0 hlt0).trans hmx
   go_wp2_with (first
    | (go_at_call 39; refine (Jci s _ (by omega)).mono ?_; rintro e w1 ⟨rfl, hb1⟩)
    | (go_at_call 177; refine (Tryz.strings_Split s ⟨#[10]⟩ mx w1 (by omega) (by first | exact (hb1.cell (p := ⟨0, 0, none⟩) (by simp)).trans hc0) (by decide)).mono ?_; rintro e w2 ⟨rfl, hb2⟩; replace hb2 := zI hb2))
   obtain ⟨LS, hLS⟩ : ∃ LS, LS = Jjl s := ⟨_, rfl⟩;have hls : (Lib.countB s ⟨#[10]⟩ + 1 : Nat) = LS.length := by rw [hLS, Joi]
   have hsz : ∀ l ∈ LS, l.size <= 4000 := fun l hl => by rw [hLS] at hl; have := Jkx s l hl; omega
   have hfew : LS.length <= 4001 := by have := Jwb s; rw [hLS]; omega
   replace hb2 := hb2.out
   rw [show Lib.splitB ⟨#[10]⟩ 0 (Lib.countB s ⟨#[10]⟩) s = LS from hLS.symm] at hb2;have HLS := zI hLS;clear hLS;obtain ⟨lb, hlb⟩ : ∃ lb, lb = w1.heap.size := ⟨_, rfl⟩;obtain ⟨g, hg⟩ : ∃ g, g = w.heap.size := ⟨_, rfl⟩;have hgl : g < lb := by have := hb1.size; simp at this; omega
   have hw2 : w2.heap.size = lb + 1 := by rw [hb2]; simp [hlb]
   have hb02 : Below g w w2 := by rw [hb2, hg]; exact (((Below.refl _ w).alloc (Nat.le_refl _) _).trans (hb1.mono (by simp))).alloc (by omega) _
   have I0 : Joj w2 g [] (.slice none 0 0) w2 := by
    have hlt : g < w2.heap.size := (by omega);refine ⟨⟨rfl, rfl, rfl, Nat.le_refl _, fun _ _ _ => rfl⟩, ?_, ?_, ?_, ?_, World.ownsRow_nil _ _ _ _⟩
    · rw [hb2, World.cell?_alloc_past _ _ _ (by omega), hb1.cell (by simp [hg]), World.cell?_alloc_at _ _ _ _ hg]; rfl
    · rw [hb2, World.frozen?_alloc_past _ _ _ (by omega), hb1.frozen (by simp [hg]), World.frozen?_alloc_at _ _ _ _ hg]
    · rw [hb2, World.cell?_alloc_past _ _ _ (by omega), hb1.cell (by simp [hg]), World.cell?_alloc_at _ _ _ _ hg]; rfl
    · rw [hb2, World.frozen?_alloc_past _ _ _ (by omega), hb1.frozen (by simp [hg]), World.frozen?_alloc_at _ _ _ _ hg]
   have hlines : ∀ j (h : j < LS.length), w2.cell? ⟨lb, j, none⟩ = some (.string LS[j]) := fun j h => by
    rw [hb2, World.cell?_alloc_at _ _ _ _ hlb]; simp [h]
   rw [<- hlb, <- hg];have hgw : g < w2.heap.size := by omega
   have hb02' : Below w.heap.size w w2 := by rw [<- hg]; exact hb02
   have hgge : w.heap.size <= g := by omega
   clear hb1 hb2 hw2 hc0 hmx;rw [hls, show ((Lib.countB s ⟨#[10]⟩ : Nat) : Int) + 1 = (LS.length : Int) from by omega];clear hls hlb hg;have HFEW := zI hfew;go_loopw [19] (fun i wr => ∃ (k : Nat) (v : Value), k <= LS.length /\ i = .int .i64 k /\ Joj w2 g (cutW 1 ((LS.map ByteArray.toList).take k)) v wr /\ (∀ l ∈ (LS.map ByteArray.toList).take k, l.all okB = true) /\ (cutW 1 ((LS.map ByteArray.toList).take k)).length <= k * 4000) (fun i _ => LS.length - (intOf i).toNat)
   case atStart => exact ⟨0, _, Nat.zero_le _, rfl, I0, by simp, by simp [cutW]⟩
   case round =>
    obtain ⟨k, v, hk, rfl, hI, hall, hcnt⟩ := hrel;have HA := zI hall;clear hall;by_cases hlt : k < LS.length
    · have hcell := (hI.gr.cell (hlines k hlt) (by simp; omega))
      have hlsz := hsz _ (List.getElem_mem hlt);obtain ⟨ln, hln⟩ : ∃ ln, ln = LS[k] := ⟨_, rfl⟩;rw [<- hln] at hcell hlsz;have HLN := zI hln;clear hln;obtain ⟨A1, c1, rfl, _, _⟩ := own_slice hI.own;have y0 := hI.c0;have y1 := hI.c1;have y3 := hI.f1
      have hLk : (LS.map ByteArray.toList).take (k + 1) = (LS.map ByteArray.toList).take k ++ [ln.toList] := by
       rw [List.take_succ_eq_append_getElem (by simpa using hlt), HLN.out]; simp
      have hLl : ((LS.map ByteArray.toList).take k).length = k := by simp; omega
      have hW : cutW 1 ((LS.map ByteArray.toList).take (k + 1)) = cutW 1 ((LS.map ByteArray.toList).take k) ++ Jae (k + 1) ln.toList := by
       rw [hLk, Jjk, hLl]; simp [cutW, Int.add_comm]
      have hlw := Jmk (k + 1) ln.toList;rw [Jab] at hlw;have HW := zI hW;have HLk := zI hLk;have HLl := zI hLl;clear hW hLk hLl;obtain ⟨ws, hws⟩ : ∃ ws, ws = cutW 1 ((LS.map ByteArray.toList).take k) := ⟨_, rfl⟩;have HWS := zI hws;rw [<- hws] at hI hcnt HW;clear hws
      go_wp2_with (first
       | (go_at_call 178; refine (J0h ln (k + 1) _ (by omega) (by omega)).mono ?_; rintro e w3 (⟨hok, v2, rfl, hown2, hb3⟩ | ⟨hok, rfl, hb3⟩)
          rotate_left
          · have HOK := zI hok
            clear hok;go_wp2_with fail
            go_ret3
            have hE : cutE 1 (Jbx s) = (k : Int) + 1 := by
             rw [Int.add_comm];have h1 := Jwa _ ln.toList ((LS.map ByteArray.toList).drop (k + 1)) 1 HA.out HOK.out;rw [HLl.out] at h1;rw [<- h1]
             congr 1
             show (Jjl s).map ByteArray.toList = _;rw [<- HLS.out, HLN.out]
             conv => lhs; rw [<- List.take_append_drop k (LS.map ByteArray.toList)]
             congr 1
             rw [List.drop_eq_getElem_cons (by simpa using hlt)]; simp
            refine ⟨?_, .inr (.inl ⟨by omega, by rw [hE]; omega, by first | (rw [hE]; done) | (rw [hE]; rfl)⟩)⟩
            exact ((hb02'.grown hI.gr (by omega) (fun j hj => by injection hj with hj; omega)).trans (hb3.mono (by have := hI.gr.size; omega)))
          have HOK := zI hok;have hI3 := hI.below hgw hb3;have z1 := hI3.c1;have z3 := hI3.f1;have hsz3 := Nat.le_trans hI.gr.size hb3.size;clear hok hI y0 y1 y3 hcell;rcases hown2.2 with ⟨rfl, hz⟩ | ⟨g2, cap2, cur2, rfl, _, _, _, _, _, _⟩)
       | (at_builtin; refine wpList_append_own_none rfl _ _ 282 rfl w2.heap.size 208 i0 3 Tryz.underlying282 hi _ _ _ rfl hI3.own rfl ?_)
       | (at_builtin; refine wpList_append_own _ rfl _ _ 282 rfl w2.heap.size 208 i0 (.agg #[.string ByteArray.empty, .int .i64 0, .int .i64 0]) 3 32 Tryz.underlying282 hi hz0 hz1 hz2 rfl (by decide) _ _ _ rfl hI3.own ⟨g2, 0, none⟩ _ _ (wrow (Jae (k + 1) ln.toList)) rfl (Jeh _) (hown2.cells (g := g2) rfl) ?c2 ?c3 ?c4 ?c5 ?_
          case c2 => exact J0j _
          case c3 => unfold maxLen; omega
          case c4 => omega
          case c5 => exact hsz3
          intro v' w4 hown4 hgrow4 _;have hne : some g ≠ Value.ownBlock _ := fun e => by have := (hI3.own.lt g e.symm).1; omega
          have hbl := hgrow4.block g (by omega) hne;have z5 : w4.cell? ⟨g, 1, none⟩ = _ := (World.cell?_of_block (a := ⟨g, 1, none⟩) hbl).trans z1;have z6 : w4.frozen? ⟨g, 1, none⟩ = false := (World.frozen?_of_block (a := ⟨g, 1, none⟩) hbl).trans z3;have e0 : (ws ++ Jae (k + 1) ln.toList).length = ws.length + (Jae (k + 1) ln.toList).length := List.length_append;rw [<- Jch, <- e0] at hown4;have hI4 := hI3.put hgw hgrow4 hown4;obtain ⟨A4, c4, rfl, _, _⟩ := own_slice hown4;clear hown4 hgrow4 hbl hne z1 z3))
      · have hlw0 : Jae (k + 1) ln.toList = [] := List.eq_nil_of_length_eq_zero hz
        go_roundw
        case rel => exact ⟨k + 1, _, by omega, by go_num, by rw [HW.out, hlw0, List.append_nil]; exact hI3.put hgw ⟨rfl, rfl, rfl, Nat.le_refl _, fun _ _ _ => rfl⟩ hI3.own, Jry HLk.out HA.out HOK.out, by rw [HW.out, List.length_append]; omega⟩
        case measure => simp [intOf]; omega
      · go_roundw
        case rel => exact ⟨k + 1, _, by omega, by go_num, by rw [HW.out, <- e0]; exact hI4, Jry HLk.out HA.out HOK.out, by rw [HW.out, List.length_append]; omega⟩
        case measure => simp [intOf]; omega
    · have hke : k = LS.length := by omega
      have hfull : (LS.map ByteArray.toList).take k = Jbx s := by
       show _ = (Jjl s).map ByteArray.toList;rw [<- HLS.out]; exact List.take_of_length_le (by simp; omega)
      rw [hfull] at hI hcnt;have hcnt2 : (cutW 1 (Jbx s)).length <= 16004000 := (by omega);have HALL := zI (show ∀ l ∈ Jbx s, l.all okB = true from by have := HA.out; rwa [hfull] at this);have hd : decide ((k : Int) < (LS.length : Int)) = false := decide_eq_false (by omega);clear hke hfull HA hcnt;go_wp2_with fail
      go_ret3
      have hbelow := hb02'.grown hI.gr (by omega) (fun j hj => by injection hj with hj; omega);obtain ⟨A1, c1, rfl, hc1, hsl⟩ := own_slice hI.own;exact ⟨hbelow, .inr (.inr ⟨by omega, Jog _ _ HALL.out, g, hgge, rfl, Nat.lt_of_lt_of_le hgw hI.gr.size, hcnt2, Nat.zero_le _, hI.c0, hI.f0, A1, c1, hI.c1, hI.f1, hsl, hc1, fun b off e => by subst e; have := (hI.own.lt b rfl).1; omega⟩)⟩
theorem Jjm (w : World) (g a : Nat) (ws : List Wd) (h : Ja6 w g a ws) :
  Calls Tryz.prog 108 #[.pointer (some ⟨g, 0, none⟩)] w fun e w' => e = .returned (.int .i64 ((ws.length - a : Nat) : Int)) /\ Below w.heap.size w w' := by
 obtain ⟨A, c, h1, h2, h3, h4, h5⟩ := h.c1;have y0 := h.c0;have hle := h.le;have hfew := h.few;have hw : IntKind.i64.wrap ((ws.length : Int) - a) = (ws.length : Int) - a := IntWalk.i64_in _ (by omega);go_enter Tryz.func108, Tryz.ntmps108;go_wp2_with fail
 go_quiet (fail)
 go_wp2_with fail
 go_ret;exact ⟨Jbl (by omega), below_drewN (Below.refl _ _) _⟩
def wagg (x : Wd) : Value := .agg #[.string ⟨x.text.toArray⟩, .int .i64 x.line, .int .i64 x.col]
def Jim : Value := .agg #[.string ByteArray.empty, .int .i64 0, .int .i64 0]
def Jif (a : Nat) (ws : List Wd) : Value := match ws[a]? with
 | some x => .tuple #[wagg x, .bool true]
 | none => .tuple #[Jim, .bool false]
theorem Jg4 {w w1 : World} {T : TypeId} (hb : Below (w.alloc (.cells #[.string ⟨#[]⟩, .int .i64 0, .int .i64 0] T)).heap.size (w.alloc (.cells #[.string ⟨#[]⟩, .int .i64 0, .int .i64 0] T)) w1) :
  w1.cell? ⟨w.heap.size, 0, none⟩ = some (.string ⟨#[]⟩) /\ w1.cell? ⟨w.heap.size, 1, none⟩ = some (.int .i64 0) /\ w1.cell? ⟨w.heap.size, 2, none⟩ = some (.int .i64 0) /\
  w1.frozen? ⟨w.heap.size, 0, none⟩ = false /\ w1.frozen? ⟨w.heap.size, 1, none⟩ = false /\ w1.frozen? ⟨w.heap.size, 2, none⟩ = false :=
 ⟨(hb.cell (p := ⟨w.heap.size, 0, none⟩) (by simp)).trans (World.cell?_alloc_at _ _ _ _ rfl), (hb.cell (p := ⟨w.heap.size, 1, none⟩) (by simp)).trans (World.cell?_alloc_at _ _ _ _ rfl),
  (hb.cell (p := ⟨w.heap.size, 2, none⟩) (by simp)).trans (World.cell?_alloc_at _ _ _ _ rfl), (hb.frozen (p := ⟨w.heap.size, 0, none⟩) (by simp)).trans (World.frozen?_alloc_at _ _ _ _ rfl),
  (hb.frozen (p := ⟨w.heap.size, 1, none⟩) (by simp)).trans (World.frozen?_alloc_at _ _ _ _ rfl), (hb.frozen (p := ⟨w.heap.size, 2, none⟩) (by simp)).trans (World.frozen?_alloc_at _ _ _ _ rfl)⟩
theorem Jei (w : World) (g a : Nat) (ws : List Wd) (h : Ja6 w g a ws) :
  Calls Tryz.prog 109 #[.pointer (some ⟨g, 0, none⟩)] w fun e w' => e = .returned (Jif a ws) /\ Below w.heap.size w w' := by
 have h0 := h.below ((Below.refl _ _).alloc (Nat.le_refl _) (.cells #[.string ⟨#[]⟩, .int .i64 0, .int .i64 0] 208));have hfew := h.few;by_cases hl : a < ws.length
 · have hv : Jif a ws = .tuple #[wagg ws[a], .bool true] := by unfold Jif; rw [List.getElem?_eq_getElem hl]
   rw [hv];have hz : decide ((((ws.length - a : Nat) : Int)) = 0) = false := decide_eq_false (by omega);clear hv;go_enter Tryz.func109, Tryz.ntmps109
   go_wp2_with (first
    | (go_at_call 108; refine (Jjm _ _ _ _ h0).mono ?_; rintro e w1 ⟨rfl, hb⟩
       have h1 := h0.below hb;obtain ⟨A, c, x1, x2, x3, x4, x5⟩ := h1.c1;have y0 := h1.c0;obtain ⟨b, off, rfl, _, hcell⟩ := x3.at_ (fun e => by have := congrArg List.length e; rw [Jeh] at this; simp at this; omega);obtain ⟨g1, g2, g3⟩ := Jg2 ws a hl;have z1 := hcell _ _ g1;have z2 := hcell _ _ g2;have z3 := hcell _ _ g3;rw [<- Nat.add_assoc] at z2 z3;obtain ⟨q0, q1, q2, q3, q4, q5⟩ := Jg4 hb;clear hcell g1 g2 g3))
   go_still_tail 11, (by kernel_rfl)
   change wpList _ _ _ _ _ w1.drew;go_wp2_with fail
   (try simp only [Exit.inBlock, Exit.then])
   refine bodyPost_ret (v := .tuple #[wagg ws[a], .bool true]) ?_ rfl ⟨rfl, ?_⟩
   · rw [results_cell_tmp rfl]
     go_simp
     rfl
   · exact ((((((Below.refl w.heap.size w).alloc (Nat.le_refl _) _).trans (hb.mono (by simp))).drew.setCell (by simp) _).setCell (by simp) _).setCell (by simp) _)
 · have hv : Jif a ws = .tuple #[Jim, .bool false] := by unfold Jif; rw [List.getElem?_eq_none (by omega)]
   rw [hv];have hz : ws.length - a = 0 := by omega
   go_enter Tryz.func109, Tryz.ntmps109
   go_wp2_with (first
    | (go_at_call 108; refine (Jjm _ _ _ _ h0).mono ?_; rw [hz]; rintro e w1 ⟨rfl, hb⟩; obtain ⟨q0, q1, q2, q3, q4, q5⟩ := Jg4 hb))
   (try simp only [Exit.inBlock, Exit.then])
   refine bodyPost_ret (v := .tuple #[Jim, .bool false]) ?_ rfl ⟨rfl, ?_⟩
   · rw [results_cell_tmp rfl]
     go_simp
     rfl
   · exact ((((((Below.refl w.heap.size w).alloc (Nat.le_refl _) _).trans (hb.mono (by simp))).setCell (by simp) _).setCell (by simp) _).setCell (by simp) _)
def Jml (a : Nat) (ws : List Wd) : Nat := if a < ws.length then a + 1 else a
theorem Jg5 {w w1 : World} {g : Nat} (h : w.grownBy w1 (some g)) {p : Addr} (hp : w.heap.size <= p.block \/ p.block = g) (u : Value) : w.grownBy (w1.setCell p u) (some g) :=
 ⟨h.os, h.tape, h.output, by have := h.size; simpa using this, fun k hk hne => by
  have e : k ≠ p.block := fun e => hp.elim (fun hp => by omega) (fun hp => hne (by rw [e, hp]));rw [Below.heap_setCell _ _ _ _ e];exact h.block k hk hne⟩
theorem Ja6.grow {w w' : World} {g a a' : Nat} {ws : List Wd} (h : Ja6 w g a ws) (hg : w.grownBy w' (some g)) (c0 : w'.cell? ⟨g, 0, none⟩ = some (.int .i64 a')) (f0 : w'.frozen? ⟨g, 0, none⟩ = false)
  (c1 : w'.cell? ⟨g, 1, none⟩ = w.cell? ⟨g, 1, none⟩) (f1 : w'.frozen? ⟨g, 1, none⟩ = w.frozen? ⟨g, 1, none⟩) (le : a' <= ws.length) : Ja6 w' g a' ws := by
 obtain ⟨A, c, h1, h2, h3, h4, h5⟩ := h.c1;refine ⟨Nat.lt_of_lt_of_le h.lt hg.size, h.few, le, c0, f0, A, c, c1.trans h1, f1.trans h2, ⟨fun hne => ?_⟩, h4, h5⟩;obtain ⟨b, off, e, hb, hc⟩ := h3.at_ hne;exact ⟨b, off, e, Nat.lt_of_lt_of_le hb hg.size, fun j u hu => hg.cell (hc j u hu) (by simp; exact h5 b off e)⟩
theorem Jrz (w : World) (g a : Nat) (ws : List Wd) (h : Ja6 w g a ws) :
  Calls Tryz.prog 236 #[.pointer (some ⟨g, 0, none⟩)] w fun e w' => e = .returned (Jif a ws) /\ Ja6 w' g (Jml a ws) ws /\ w.grownBy w' (some g) /\ w'.cell? ⟨g, 1, none⟩ = w.cell? ⟨g, 1, none⟩ := by
 have h0 := h.below ((Below.refl _ _).alloc (Nat.le_refl _) (.cells #[.string ⟨#[]⟩, .int .i64 0, .int .i64 0] 208));have hfew := h.few;have hglt := h.lt;by_cases hl : a < ws.length
 · have hv : Jif a ws = .tuple #[.agg #[.string ⟨ws[a].text.toArray⟩, .int .i64 ws[a].line, .int .i64 ws[a].col], .bool true] := by unfold Jif; rw [List.getElem?_eq_getElem hl]; rfl
   have hx : Jml a ws = a + 1 := by unfold Jml; rw [if_pos hl]
   rw [hx, hv];clear hx;go_enter Tryz.func236, Tryz.ntmps236
   go_wp2_with (first
    | (go_at_call 109; refine (Jei _ _ _ _ h0).mono ?_; rw [hv]; rintro e w1 ⟨rfl, hb⟩
       have h1 := h0.below hb;have y0 := h1.c0;have y1 := h1.f0;obtain ⟨q0, q1, q2, q3, q4, q5⟩ := Jg4 hb;have hg1 : g < w1.heap.size := h1.lt;have hq1 : w.heap.size < w1.heap.size := by have := hb.size; simp at this; omega
       have hw : IntKind.i64.wrap ((a : Int) + 1) = (a : Int) + 1 := IntWalk.i64_in _ (by omega)))
   (try simp only [Exit.inBlock, Exit.then])
   have hgr : w.grownBy w1 (some g) := Jaa (((Below.refl w.heap.size w).alloc (Nat.le_refl _) _).trans (hb.mono (by simp))) _
   have hgr2 := Jap (Jg5 (Jg5 (Jg5 (Jg5 hgr (p := ⟨g, 0, none⟩) (.inr rfl) (.int .i64 ((a : Int) + 1)))
    (p := ⟨w.heap.size, 0, none⟩) (.inl (Nat.le_refl _)) (.string ⟨ws[a].text.toArray⟩)) (p := ⟨w.heap.size, 1, none⟩) (.inl (Nat.le_refl _)) (.int .i64 ws[a].line)) (p := ⟨w.heap.size, 2, none⟩) (.inl (Nat.le_refl _)) (.int .i64 ws[a].col)) (World.grownBy_alloc _ (.cells #[.string ⟨ws[a].text.toArray⟩, .int .i64 ws[a].line, .int .i64 ws[a].col] 208) _)
   have hgn : ∀ i j, (⟨w.heap.size, i, none⟩ : Addr) ≠ ⟨g, j, none⟩ := fun i j e => by injection e with e; omega
   have F1 : ∀ v0 v1 v2 v3 o, ((((((w1.setCell ⟨g, 0, none⟩ v0).setCell ⟨w.heap.size, 0, none⟩ v1).setCell ⟨w.heap.size, 1, none⟩ v2).setCell ⟨w.heap.size, 2, none⟩ v3).alloc o).cell? ⟨g, 0, none⟩ = some v0) /\ ((((((w1.setCell ⟨g, 0, none⟩ v0).setCell ⟨w.heap.size, 0, none⟩ v1).setCell ⟨w.heap.size, 1, none⟩ v2).setCell ⟨w.heap.size, 2, none⟩ v3).alloc o).cell? ⟨g, 1, none⟩ = w1.cell? ⟨g, 1, none⟩) /\
     ∀ i, (((((w1.setCell ⟨g, 0, none⟩ v0).setCell ⟨w.heap.size, 0, none⟩ v1).setCell ⟨w.heap.size, 1, none⟩ v2).setCell ⟨w.heap.size, 2, none⟩ v3).alloc o).frozen? ⟨g, i, none⟩ = w1.frozen? ⟨g, i, none⟩ := fun v0 v1 v2 v3 o => by
    refine ⟨?_, ?_, fun i => ?_⟩
    · rw [World.cell?_alloc_past _ _ _ (by simpa using hg1), World.cell?_setCell_other _ _ _ _ (hgn _ _), World.cell?_setCell_other _ _ _ _ (hgn _ _), World.cell?_setCell_other _ _ _ _ (hgn _ _), World.cell?_setCell_same _ _ _ y0]
    · rw [World.cell?_alloc_past _ _ _ (by simpa using hg1), World.cell?_setCell_other _ _ _ _ (hgn _ _), World.cell?_setCell_other _ _ _ _ (hgn _ _), World.cell?_setCell_other _ _ _ _ (hgn _ _), World.cell?_setCell_other _ _ _ _ (by simp)]
    · rw [World.frozen?_alloc_past _ _ _ (by simpa using hg1), World.frozen?_setCell, World.frozen?_setCell, World.frozen?_setCell, World.frozen?_setCell]
   refine bodyPost_ret (v := .tuple #[.agg #[.string ⟨ws[a].text.toArray⟩, .int .i64 ws[a].line, .int .i64 ws[a].col], .bool true]) ?_ rfl ⟨rfl, ?_, hgr2, ?_⟩
   · rw [results_cell_tmp rfl]
     go_simp
   · have hg0 := hgr.block g hglt
     have E1 : w1.cell? ⟨g, 1, none⟩ = w.cell? ⟨g, 1, none⟩ := by
      rw [hb.cell (by simp; omega), World.cell?_alloc_past _ _ _ hglt]
     have E2 : w1.frozen? ⟨g, 1, none⟩ = w.frozen? ⟨g, 1, none⟩ := by
      rw [hb.frozen (by simp; omega), World.frozen?_alloc_past _ _ _ hglt]
     exact h.grow hgr2 (F1 _ _ _ _ _).1 (((F1 _ _ _ _ _).2.2 0).trans y1) ((F1 _ _ _ _ _).2.1.trans E1) (((F1 _ _ _ _ _).2.2 1).trans E2) hl
   · exact (F1 _ _ _ _ _).2.1.trans (by rw [hb.cell (by simp; omega), World.cell?_alloc_past _ _ _ hglt])
 · have hv : Jif a ws = .tuple #[.agg #[.string ByteArray.empty, .int .i64 0, .int .i64 0], .bool false] := by unfold Jif; rw [List.getElem?_eq_none (by omega)]; rfl
   have hx : Jml a ws = a := by unfold Jml; rw [if_neg hl]
   rw [hx, hv];go_enter Tryz.func236, Tryz.ntmps236
   go_wp2_with (first
    | (go_at_call 109; refine (Jei _ _ _ _ h0).mono ?_; rw [hv]; rintro e w1 ⟨rfl, hb⟩; obtain ⟨q0, q1, q2, q3, q4, q5⟩ := Jg4 hb
       have hq1 : w.heap.size < w1.heap.size := by have := hb.size; simp at this; omega))
   (try simp only [Exit.inBlock, Exit.then])
   have hbel := ((((((Below.refl w.heap.size w).alloc (Nat.le_refl _) _).trans (hb.mono (by simp))).setCell (p := ⟨w.heap.size, 0, none⟩) (Nat.le_refl _) (.string ByteArray.empty)).setCell (p := ⟨w.heap.size, 1, none⟩) (Nat.le_refl _) (.int .i64 0)).setCell (p := ⟨w.heap.size, 2, none⟩) (Nat.le_refl _) (.int .i64 0)).alloc (by simp; omega) (.cells #[.string ByteArray.empty, .int .i64 0, .int .i64 0] 208);refine bodyPost_ret (v := .tuple #[.agg #[.string ByteArray.empty, .int .i64 0, .int .i64 0], .bool false]) ?_ rfl ⟨rfl, h.below hbel, Jaa hbel _, hbel.cell (p := ⟨g, 1, none⟩) hglt⟩;rw [results_cell_tmp rfl];go_simp
end Go.Proofs.YtalkkhafcfhglaaGreatDoor.Py
