/-
  Several texts in one: Devw, Devn, Devf, Dk, Sto0, StoA.
-/
import Derived.Carry
import Derived.Test.YtalkkhafcfhglaaGreatDoorQ26
set_option maxRecDepth 100000
set_option maxHeartbeats 4000000
namespace Go.Proofs.YtalkkhafcfhglaaGreatDoor
open Go.RowKit Go.Maps
theorem SMap.store_run {w : World} {b n : Nat} {f : Int -> Option ByteArray} (h : SMap w b n f) (hn : n < maxLen) {k : Int} {s : ByteArray} (hk : (Lit.int .i64 k).wf = true) (hs : s.size <= maxLen) :
  ∃ w', (Instr.mapUpdate 78 (.map (some b)) (.int .i64 k) (.string s)).run Tryz.prog w = .ok () w' /\ SMap w' b (n + 1) (setS f k s) /\ w.grownBy w' (some b) := by
 obtain ⟨D, h1, hr⟩ := h.own;obtain ⟨w', hrun, r1, r2⟩ := h1.update (int_keyed Tryz.underlying3) Tryz.underlying78 hn (keyOf_int_mk Tryz.underlying3 hk) (plainElem_string Tryz.underlying9 hs);exact ⟨w', hrun, ⟨_, r1, hr.put k s⟩, r2⟩
theorem J49 : (Tryz.prog.info? 102).map (fun i => (i.zero, i.size, i.bytes)) = some (some (.agg #[.int .i64 0, .string ByteArray.empty]), 2, 24) := by kernel_rfl
theorem J04 {B g mn ml N n : Nat} {f fl : Int -> Option ByteArray} {ws : List (Int × ByteArray)} {vW : Value} (w : World) (h : Jbe w B g mn ml N n f fl ws vW) (k : Nat) (hk : k < N) (s : ByteArray) (hs : s.size = 256) (hn : n <= 1000000) (hws : ws.length <= 1000000) (hB : B <= w.heap.size) :
  Calls Tryz.prog 11 #[.pointer (some ⟨g, 0, none⟩), .int .i64 (k : Int), .string s] w fun e w' => e = .returned (.int .i64 0) /\ ∃ vW', Jbe w' B g mn ml N (n + 1) (setS f k s) fl (ws ++ [((k : Int), s)]) vW' /\ Chg (dkF g mn ml vW) w w' /\ ∀ b, dkF g mn ml vW' b -> dkF g mn ml vW b \/ w.heap.size <= b := by
 obtain ⟨i0, hi, hz0, hz1, hz2⟩ := info_parts J49;have HI := zI hi;have HI0 := zI hz0;have HI1 := zI hz1;have HI2 := zI hz2;clear hi hz0 hz1 hz2;have HO := zI (Jm4 w h);have HG := zI (Jse w h);obtain ⟨wr, left, kA, kn, kc, hb⟩ := h.ex;have e5 := hb.at_ 5 (v := .int .i64 (N : Int)) rfl;have hN := h.size.2
 have hwf : (Lit.int .i64 (k : Int)).wf = true := by
  have e1 : IntKind.i64.min = -9223372036854775808 /\ IntKind.i64.max = 9223372036854775807 := by decide
  simp [Lit.wf, e1.1, e1.2];omega
 have HWF := zI hwf;have h1 : decide ((k : Int) < 0) = false := decide_eq_false (by omega);have h2 : decide ((N : Int) <= (k : Int)) = false := decide_eq_false (by omega);clear h hb hwf;go_enter Tryz.func11, Tryz.ntmps11;go_wp2_with fail
 refine HO.out.mono ?_;rintro e w1 ⟨rfl, hw⟩;subst hw;go_wp2_with fail
 refine HG.out.mono ?_;rintro e w2 ⟨rfl, hd2, hg2⟩;have HD2 := zI hd2;have HG2 := zI hg2;have HCL := zI (Jci s w2 (by omega));clear hd2 hg2 e5;go_wp2_with fail
 refine HCL.out.mono ?_;rintro e w3 ⟨rfl, hb3⟩;have hba := (Below.refl w3.heap.size w3).alloc (Nat.le_refl _) (.cells #[.int .i64 (k : Int), .string s] 102);have hbx := Bx.new w3 102 #[.int .i64 (k : Int), .string s];obtain ⟨w4, hw4⟩ : ∃ w4, w4 = w3.alloc (.cells #[.int .i64 (k : Int), .string s] 102) := ⟨_, rfl⟩;obtain ⟨q, hq⟩ : ∃ q, q = w3.heap.size := ⟨_, rfl⟩;rw [<- hw4] at hba hbx;rw [<- hq] at hbx;have HW4 := zI hw4;have HQ := zI hq;have hb24 := hb3.trans (hba.mono hb3.size);have HD4 := zI (HD2.out.below hb24);obtain ⟨wr4, left4, kA4, kn4, kc4, hb4⟩ := HD4.out.ex;have c6 := hb4.at_ 6 (v := .map (some mn)) rfl;have p1 := hbx.at_ 1 (v := .string s) rfl;have HBX := zI hbx;have HB4 := zI hb4;obtain ⟨w5, hrun, hm5, hg5⟩ := (HD4.out.now.below (w' := w4.drew) (Below.refl _ _).drew).store_run (by unfold maxLen; omega) HWF.out (show s.size <= maxLen by unfold maxLen; omega);have HM5 := zI hm5;have HG5 := zI hg5;clear hw4 hq hba hb4 hbx hm5 hg5;go_upto_region 11 with fail
 rw [<- HQ.out, <- HW4.out];go_region
 have hgm : some g ≠ some mn := fun e => by cases e; exact HD4.out.now.nocells _ _ _ HB4.out.blk
 have hqm : some q ≠ some mn := fun e => by cases e; exact HD4.out.now.nocells _ _ _ HBX.out.blk
 have HB5 := zI ((HB4.out.below (w' := w4.drew) (Below.refl _ _).drew).grown HG5.out hgm);have HQ5 := zI ((HBX.out.below (w' := w4.drew) (Below.refl _ _).drew).grown HG5.out hqm)
 have hrm : vW.ownBlock = none \/ vW.ownBlock ≠ some mn := by
  cases e : vW.ownBlock with
  | none => exact .inl rfl
  | some z =>
    obtain ⟨cs, hcs⟩ := Jcm HD4.out.row e;exact .inr fun e2 => by cases e2; exact HD4.out.now.nocells _ _ _ hcs
 have HR5 := zI ((Jaj HD4.out.row (w' := w4.drew) (Below.refl _ _).drew).kept HG5.out hrm);have HL5 := zI ((HD4.out.lasts.below (w' := w4.drew) (Below.refl _ _).drew).grown HG5.out (fun e => HD4.out.ne (Option.some.inj e).symm));obtain ⟨AW, cW, rfl, _⟩ := Jaq HR5.out;have d0 := HB5.out.at_ 8 rfl;have d1 := HQ5.out.at_ 0 (v := .int .i64 (k : Int)) rfl;have d2 := HQ5.out.at_ 1 (v := .string s) rfl;clear c6 p1 hrun hgm hqm hrm;go_upto_region 12 with fail
 have hbA := (Below.refl w5.heap.size w5).alloc (Nat.le_refl _) (.cells #[.int .i64 (k : Int), .string s] 102);have hba5 := hbA.drew;have d0a := (HB5.out.below hbA).at_ 8 rfl;have HBA5 := zI hba5;have HSC := zI ((Sl.new w5 102 w5.heap.size [.int .i64 (k : Int), .string s] #[.int .i64 (k : Int), .string s] rfl rfl).below (Below.refl _ _).drew)
 have HOC := zI (show ∀ x ∈ [Value.int .i64 (k : Int), .string s], x.oneCell' = true from fun x hx => by
  rcases List.mem_cons.1 hx with rfl | hx
  · rfl
  · rw [List.mem_singleton.1 hx]; rfl)
 have HR6 := zI (Jaj HR5.out hba5);have HB6 := zI (HB5.out.below hba5)
 have hsz5 : B <= (w5.alloc (.cells #[.int .i64 (k : Int), .string s] 102)).drew.heap.size := by
  have e1 := HG2.out.size;have e2 := hb24.size;have e3 := HG5.out.size;have e4 := hba5.size;have e5 : w4.drew.heap.size = w4.heap.size := rfl;omega
 have HZC := zI hsz5;clear hbA hba5 hsz5
 go_region_law (first
  | (refine Jbw _ (by rfl) _ _ 79 (by rfl) B 102 i0 _ 2 24 Tryz.underlying79 HI.out HI0.out HI1.out HI2.out rfl (by decide) (.slice AW ws.length cW) ws.length (ws.flatMap Jen) (by rfl) HR6.out (some ⟨w5.heap.size, 0, none⟩) 1 1 [.int .i64 (k : Int), .string s] (by rfl) rfl HSC.out HOC.out (by unfold maxLen; omega) (by omega) HZC.out ?_
     intro v6 w6 hown6 hg6 hat6;obtain ⟨AY, cY, eY, _⟩ := Jaq hown6;subst eY;have BX6 := zI (HB6.out.grown hg6 (HB6.out.not_row HR6.out (by decide)));have d8 := BX6.out.at_ 8 rfl;have f8 := BX6.out.free 8))
 all_goals
  have hg7 := Jai w6 g 8 (.slice AY (ws.length + 1) cY);have bx7 := BX6.out.set 8 (.slice AY (ws.length + 1) cY);have hr7 := hown6.kept hg7 (.inr (fun e => BX6.out.not_row hown6 (by decide) e.symm))
  have hno : ∀ {m n' : Nat} {f' : Int -> Option ByteArray}, SMap w5 m n' f' -> SMap (w6.setCell ⟨g, 8, none⟩ (.slice AY (ws.length + 1) cY)) m n' f' := fun {m n' f'} h => by
   have h6 := (h.below HBA5.out).grown hg6 (fun e => by
    obtain ⟨cs, hcs⟩ := Jcm HR6.out e.symm;exact (h.below HBA5.out).nocells _ _ _ hcs)
   exact h6.grown hg7 (fun e => by cases e; exact h6.nocells _ _ _ BX6.out.blk)
  have hn7 := hno HM5.out;obtain ⟨D, hD1, hD2⟩ := (hno HL5.out).own;have hl7 : SMap (w6.setCell ⟨g, 8, none⟩ (.slice AY (ws.length + 1) cY)) ml (n + 1) fl := ⟨D, hD1.mono (Nat.le_succ n), hD2⟩;have c1 : Chg (dkF g mn ml (.slice AW ws.length cW)) w w2 := .of_grown HG2.out (fun b e => by cases e; exact .inl rfl);have c3 : Chg (dkF g mn ml (.slice AW ws.length cW)) w w5 := ((c1.then_below hb24).then_below (Below.refl w4.heap.size w4).drew).trans (Chg.of_grown (F := dkF g mn ml (.slice AW ws.length cW)) HG5.out (fun b e => by cases e; exact .inr (.inl rfl))) (fun b h => .inl h);have c5 := (c3.then_below HBA5.out).trans (Chg.of_grown (F := dkF g mn ml (.slice AW ws.length cW)) hg6 (fun b e => .inr (.inr (.inr e)))) (fun b h => .inl h);have c7 := c5.trans (Chg.of_grown (F := dkF g mn ml (.slice AW ws.length cW)) hg7 (fun b e => by cases e; exact .inl rfl)) (fun b h => .inl h);have hsw : w.heap.size <= (w5.alloc (.cells #[.int .i64 (k : Int), .string s] 102)).drew.heap.size := (c3.then_below HBA5.out).size
  have hrow : (w6.setCell ⟨g, 8, none⟩ (.slice AY (ws.length + 1) cY)).ownsRow B 102 2 (.slice AY (ws.length + 1) cY) (ws ++ [((k : Int), s)]).length ((ws ++ [((k : Int), s)]).flatMap Jen) := by
   rw [List.length_append, List.flatMap_append];exact hr7
  go_wp2_with fail
  go_ret;refine ⟨rfl, .slice AY (ws.length + 1) cY, ⟨⟨wr4, left4, kA4, kn4, kc4, bx7⟩, hrow, hn7, hl7, HD4.out.ne, HD4.out.size⟩, c7, fun b hb => ?_⟩;rcases hb with h | h | h | h
  · exact .inl (.inl h)
  · exact .inl (.inr (.inl h))
  · exact .inl (.inr (.inr (.inl h)))
  · rcases hat6 with e | e
    · exact .inl (.inr (.inr (.inr (e.symm.trans h))))
    · have h9 := Option.some.inj (e.symm.trans h)
      exact .inr (by rw [<- h9]; exact hsw)
theorem J3z (N : Nat) (w : World) (h1 : 1 <= N) (h2 : N <= 4096) :
  Calls Tryz.prog 9 #[.int .i64 (N : Int)] w fun e w' => ∃ g mn ml, e = .returned (.pointer (some ⟨g, 0, none⟩)) /\ Jbe w' w.heap.size g mn ml N 0 (fun _ => none) (fun _ => none) [] (.slice none 0 0) /\ Below w.heap.size w w' /\ ∀ b, dkF g mn ml (.slice none 0 0) b -> w.heap.size <= b := by
 have d1 : decide ((N : Int) < 1) = false := decide_eq_false (by omega);have d2 : decide ((4096 : Int) < (N : Int)) = false := decide_eq_false (by omega);have hmm := @run_makeMap Tryz.prog;go_enter Tryz.func9, Tryz.ntmps9;go_wp2_with fail
 go_ret;have m1 := SMap.made w;have m2 := SMap.made (w.alloc (.map #[] 0));have b1 := (Below.refl w.heap.size w).alloc (Nat.le_refl _) (.map #[] 0);have b2 := (Below.refl (w.alloc (.map #[] 0)).heap.size (w.alloc (.map #[] 0))).alloc (Nat.le_refl _) (.map #[] 0);have b3 := (Below.refl ((w.alloc (.map #[] 0)).alloc (.map #[] 0)).heap.size ((w.alloc (.map #[] 0)).alloc (.map #[] 0))).alloc (Nat.le_refl _) (.cells #[.bool true, .int .i64 0, .bool false, .int .i64 0, .slice none 0 0, .int .i64 (N : Int), .map (some w.heap.size), .map (some (w.heap.size + 1)), .slice none 0 0] 81);have hx := Bx.new ((w.alloc (.map #[] 0)).alloc (.map #[] 0)) 81 #[.bool true, .int .i64 0, .bool false, .int .i64 0, .slice none 0 0, .int .i64 (N : Int), .map (some w.heap.size), .map (some (w.heap.size + 1)), .slice none 0 0];have hs1 : (w.alloc (.map #[] 0)).heap.size = w.heap.size + 1 := by simp
 have hs2 : ((w.alloc (.map #[] 0)).alloc (.map #[] 0)).heap.size = w.heap.size + 2 := by simp
 have m2' := m2.below b3;rw [hs1] at m2';rw [hs2] at hx;refine ⟨w.heap.size + 2, w.heap.size, w.heap.size + 1, by first | rfl | simp, ⟨⟨0, 0, none, 0, 0, hx⟩, World.ownsRow_nil _ _ _ _, (m1.below b2).below b3, m2', by omega, h1, h2⟩, (b1.trans (b2.mono b1.size)).trans (b3.mono (Nat.le_trans b1.size b2.size)), fun b hb => ?_⟩
 rcases hb with rfl | rfl | rfl | h
 · omega
 · omega
 · omega
 · cases h
def Jhe (fl : Int -> Option ByteArray) (ws : List (Int × ByteArray)) : Int -> Option ByteArray := ws.foldl (fun f x => setS f x.1 x.2) fl
theorem Jlh (fl : Int -> Option ByteArray) (ws : List (Int × ByteArray)) (x : Int × ByteArray) : Jhe fl (ws ++ [x]) = setS (Jhe fl ws) x.1 x.2 := by simp [Jhe]
theorem J5q {w : World} {A : Option Addr} {ws : List (Int × ByteArray)} (h : Sl w A (ws.flatMap Jen)) {k : Nat} (hk : k < ws.length) :
  ∃ b off, A = some ⟨b, off, none⟩ /\ w.cell? ⟨b, off + k * 2, none⟩ = some (.int .i64 ws[k].1) /\ w.cell? ⟨b, off + k * 2 + 1, none⟩ = some (.string ws[k].2) := by
 have hlen : (ws.flatMap Jen).length = 2 * ws.length := by
  have : ∀ l : List (Int × ByteArray), (l.flatMap Jen).length = 2 * l.length := fun l => by
   induction l with
   | nil => rfl
   | cons a r ih => rw [List.flatMap_cons, List.length_append, ih, List.length_cons]; simp [Jen]; omega
  exact this ws
 have hg : ∀ (l : List (Int × ByteArray)) (k : Nat) (hk : k < l.length), (l.flatMap Jen)[k * 2]? = some (.int .i64 l[k].1) /\ (l.flatMap Jen)[k * 2 + 1]? = some (.string l[k].2) := by
  intro l
  induction l with
  | nil => intro k hk; simp at hk
  | cons a r ih =>
    intro k hk;cases k with
    | zero => exact ⟨rfl, rfl⟩
    | succ k =>
      have := ih k (by simpa using hk);rw [show (k + 1) * 2 = k * 2 + 2 by omega];exact this
 obtain ⟨b, off, e, _, hc⟩ := h.at_ (fun e => by rw [e] at hlen; simp at hlen; omega);obtain ⟨h1, h2⟩ := hg ws k hk;exact ⟨b, off, e, hc _ _ h1, hc _ _ h2⟩
theorem Jbe.lastSet {w w' : World} {B g mn ml N n : Nat} {f fl fl' : Int -> Option ByteArray} {ws : List (Int × ByteArray)} {vW : Value} (h : Jbe w B g mn ml N n f fl ws vW) (hm : SMap w' ml (n + 1) fl') (hg : w.grownBy w' (some ml)) : Jbe w' B g mn ml N (n + 1) f fl' ws vW := by
 obtain ⟨wr, left, kA, kn, kc, hb⟩ := h.ex;have hgm : some g ≠ some ml := fun e => by cases e; exact h.lasts.nocells _ _ _ hb.blk
 have hrm : vW.ownBlock = none \/ vW.ownBlock ≠ some ml := by
  cases e : vW.ownBlock with
  | none => exact .inl rfl
  | some z =>
    obtain ⟨cs, hcs⟩ := Jcm h.row e;exact .inr fun e2 => by cases e2; exact h.lasts.nocells _ _ _ hcs
 obtain ⟨D, h1, h2⟩ := (h.now.grown hg (fun e => h.ne (Option.some.inj e))).own;exact ⟨⟨wr, left, kA, kn, kc, hb.grown hg hgm⟩, h.row.kept hg hrm, ⟨D, h1.mono (Nat.le_succ n), h2⟩, hm, h.ne, h.size⟩
theorem J05 {B g mn ml N n : Nat} {f fl : Int -> Option ByteArray} {ws : List (Int × ByteArray)} {vW : Value} (w : World) (h : Jbe w B g mn ml N n f fl ws vW) (hw : ∀ x ∈ ws, (Lit.int .i64 x.1).wf = true /\ x.2.size <= maxLen) (hn : n + ws.length <= 1000000) :
  Calls Tryz.prog 61 #[.pointer (some ⟨g, 0, none⟩)] w fun e w' => e = .returned (.int .i64 0) /\ Jbe w' B g mn ml N (n + ws.length) f (Jhe fl ws) [] (.slice none 0 0) /\ Chg (dkF g mn ml vW) w w' := by
 have HO := zI (Jm4 w h);have HG := zI (Jse w h);have HW := zI hw;obtain ⟨AW, cW, rfl, _⟩ := Jaq h.row;clear h hw;go_enter Tryz.func61, Tryz.ntmps61;go_wp2_with fail
 refine HO.out.mono ?_;rintro e w1 ⟨rfl, hw⟩;subst hw;go_wp2_with fail
 refine HG.out.mono ?_;rintro e w2 ⟨rfl, hd2, hg2⟩;have HD2 := zI hd2;have HC2 := zI (show Chg (dkF g mn ml (.slice AW ws.length cW)) w w2 from .of_grown hg2 (fun b e => by cases e; exact .inl rfl));obtain ⟨wr2, left2, kA2, kn2, kc2, hb2⟩ := hd2.ex;have c8 := hb2.at_ 8 rfl;clear hd2 hg2 hb2;go_wp2_with fail
 go_loopw [25] (fun i wr => ∃ k : Nat, k <= ws.length /\ i = .int .i64 (k : Int) /\ Jbe wr B g mn ml N (n + k) f (Jhe fl (ws.take k)) ws (.slice AW ws.length cW) /\ Chg (dkF g mn ml (.slice AW ws.length cW)) w wr) (fun i _ => ws.length - (intOf i).toNat)
 case atStart => exact ⟨0, Nat.zero_le _, rfl, HD2.out, HC2.out⟩
 case round =>
  obtain ⟨k, hk, rfl, hd, hc⟩ := hrel;by_cases hlt : k < ws.length
  · obtain ⟨_, _, e, hsl⟩ := Jaq hd.row
    cases e
    obtain ⟨b, off, rfl, q0, q1⟩ := J5q hsl hlt
    have HS := zI (show Jhe fl (ws.take (k + 1)) = setS (Jhe fl (ws.take k)) ws[k].1 ws[k].2 from by
     have e : ws.take (k + 1) = ws.take k ++ [ws[k]] := by rw [List.take_add_one, List.getElem?_eq_getElem hlt]; rfl
     rw [e, Jlh])
    obtain ⟨hwf, hsz⟩ := HW.out _ (List.getElem_mem hlt);generalize ws[k].1 = at_ at *;generalize ws[k].2 = s at *;have hba := (Below.refl wr.heap.size wr).alloc (Nat.le_refl _) (.cells #[.int .i64 at_, .string s] 102);have hbx := Bx.new wr 102 #[.int .i64 at_, .string s];obtain ⟨w4, hw4⟩ : ∃ w4, w4 = wr.alloc (.cells #[.int .i64 at_, .string s] 102) := ⟨_, rfl⟩;have HW4 := zI hw4;rw [<- hw4] at hba hbx;have hd4 := hd.below hba;have hd4d := hd4.below (w' := w4.drew) (Below.refl _ _).drew;obtain ⟨wr4, left4, kA4, kn4, kc4, hb4⟩ := hd4.ex;have c7 := hb4.at_ 7 (v := .map (some ml)) rfl;have p0 := hbx.at_ 0 (v := .int .i64 at_) rfl;have p1 := hbx.at_ 1 (v := .string s) rfl;obtain ⟨w5, hrun, hm5, hg5⟩ := hd4d.lasts.store_run (by unfold maxLen; omega) hwf hsz;have HD5 := zI (hd4d.lastSet hm5 hg5);have HC5 := zI (((hc.then_below hba).then_below (Below.refl w4.heap.size w4).drew).trans (Chg.of_grown (F := dkF g mn ml (.slice (some ⟨b, off, none⟩) ws.length cW)) hg5 (fun b e => by cases e; exact .inr (.inr (.inl rfl)))) (fun b h => .inl h));clear hd hc hba hbx hw4 hd4 hd4d hb4 hm5 hg5 hsl;go_upto_region 9 with fail
    rw [<- HW4.out];go_region
    go_wp2_with fail
    go_roundw
    case rel => exact ⟨k + 1, by omega, by go_num, by rw [HS.out]; exact HD5.out, HC5.out⟩
    case measure => simp [intOf]; omega
  · have hke : ws.length = k := by omega
    have HT := zI (show ws.take k = ws from by rw [<- hke, List.take_length]);rw [HT.out] at hd;obtain ⟨wr4, left4, kA4, kn4, kc4, hb4⟩ := hd.ex;have f8 := hb4.free 8;have c8' := hb4.at_ 8 rfl;have bx5 := hb4.set 8 (.slice none 0 0);have hg5 := Jai wr g 8 (.slice none 0 0);have hn5 := hd.now.grown hg5 (fun e => by cases e; exact hd.now.nocells _ _ _ hb4.blk);have hl5 := hd.lasts.grown hg5 (fun e => by cases e; exact hd.lasts.nocells _ _ _ hb4.blk);have HD5 := zI (show Jbe (wr.setCell ⟨g, 8, none⟩ (.slice none 0 0)) B g mn ml N (n + ws.length) f (Jhe fl ws) [] (.slice none 0 0) from ⟨⟨wr4, left4, kA4, kn4, kc4, bx5⟩, World.ownsRow_nil _ _ _ _, by rw [hke]; exact hn5, by rw [hke]; exact hl5, hd.ne, hd.size⟩);have HC5 := zI (hc.trans (Chg.of_grown (F := dkF g mn ml (.slice AW ws.length cW)) hg5 (fun b e => by cases e; exact .inl rfl)) (fun b h => .inl h));clear hd hc hb4 bx5 hg5 hn5 hl5 HT;go_wp2_with fail
    go_ret;exact ⟨rfl, HD5.out, HC5.out⟩
end Go.Proofs.YtalkkhafcfhglaaGreatDoor
namespace Go.Proofs.YtalkkhafcfhglaaGreatDoor
open Go.RowKit
def Jqq (f : Int -> Option ByteArray) : Prop := ∀ k s, f k = some s -> s.size = 256
theorem Jqq.set {f : Int -> Option ByteArray} (h : Jqq f) {k : Int} {s : ByteArray} (hs : s.size = 256) : Jqq (setS f k s) := by
 intro i t e;unfold setS at e;split at e
 · cases e; exact hs
 · exact h i t e
theorem Jqq.none : Jqq (fun _ => Option.none) := fun _ _ e => by cases e
structure DkAt (w : World) (F : Nat -> Prop) (g N n : Nat) (f fl : Int -> Option ByteArray) (ws : List (Int × ByteArray)) : Prop where
 ex : ∃ B mn ml vW, Jbe w B g mn ml N n f fl ws vW /\ B <= w.heap.size /\ ∀ b, dkF g mn ml vW b -> F b
 ins : Ins F w
 ws : ∀ x ∈ ws, 0 <= x.1 /\ x.1 < N /\ x.2.size = 256
 now : Jqq f
section
variable {w w' : World} {F G : Nat -> Prop} {g N n : Nat} {f fl : Int -> Option ByteArray} {ws : List (Int × ByteArray)}
theorem Jbe.ins {B mn ml : Nat} {vW : Value} (h : Jbe w B g mn ml N n f fl ws vW) : ∀ b, dkF g mn ml vW b -> b < w.heap.size := by
 obtain ⟨wr, left, kA, kn, kc, hb⟩ := h.ex;rintro b (rfl | rfl | rfl | hv)
 · exact hb.lt
 · exact h.now.lt
 · exact h.lasts.lt
 · obtain ⟨cur, hc⟩ := Jcm h.row hv
   exact lt_of_block hc
theorem DkAt.size (h : DkAt w F g N n f fl ws) : 1 <= N /\ N <= 4096 := by obtain ⟨_, _, _, _, hd, _⟩ := h.ex; exact hd.size
theorem DkAt.chg (h : DkAt w F g N n f fl ws) (hc : Chg G w w') (hd : Dj F G) : DkAt w' F g N n f fl ws := by
 obtain ⟨B, mn, ml, vW, h1, h2, h3⟩ := h.ex;exact ⟨⟨B, mn, ml, vW, h1.chg hc (fun b hb => hd b (h3 b hb)), Nat.le_trans h2 hc.size, h3⟩, h.ins.up hc.size, h.ws, h.now⟩
theorem DkAt.below (h : DkAt w F g N n f fl ws) (hb : Below w.heap.size w w') : DkAt w' F g N n f fl ws := h.chg (G := fun _ => False) (Chg.of_below hb) (fun _ _ x => x)
theorem DkAt.sub (h : DkAt w F g N n f fl ws) (hs : ∀ b, F b -> G b) (hi : Ins G w) : DkAt w G g N n f fl ws := by
 obtain ⟨B, mn, ml, vW, h1, h2, h3⟩ := h.ex;exact ⟨⟨B, mn, ml, vW, h1, h2, fun b hb => hs b (h3 b hb)⟩, hi, h.ws, h.now⟩
theorem Jiq (h : DkAt w F g N n f fl ws) (k : Nat) (hk : k < N) :
  Calls Tryz.prog 62 #[.pointer (some ⟨g, 0, none⟩), .int .i64 (k : Int)] w fun e w' => e = .returned (.tuple #[.string (Ja5 f k), .int .i64 0]) /\ Below w.heap.size w w' := by
 obtain ⟨B, mn, ml, vW, h1, _⟩ := h.ex;exact J3y w h1 k hk
theorem Jli (h : DkAt w F g N n f fl ws) : Calls Tryz.prog 27 #[.pointer (some ⟨g, 0, none⟩)] w fun e w' => e = .returned (.int .i64 (N : Int)) /\ w = w' := by
 obtain ⟨B, mn, ml, vW, h1, _⟩ := h.ex;exact Jt8 w h1
theorem Jxg (h : DkAt w F g N n f fl ws) (k : Nat) (hk : k < N) (s : ByteArray) (hs : s.size = 256) (hn : n <= 1000000) (hws : ws.length <= 1000000) :
  Calls Tryz.prog 11 #[.pointer (some ⟨g, 0, none⟩), .int .i64 (k : Int), .string s] w fun e w' => e = .returned (.int .i64 0) /\ DkAt w' (grow F w w') g N (n + 1) (setS f k s) fl (ws ++ [((k : Int), s)]) /\ Chg F w w' := by
 obtain ⟨B, mn, ml, vW, h1, h2, h3⟩ := h.ex;refine (J04 w h1 k hk s hs hn hws h2).mono ?_;rintro e w' ⟨rfl, vW', hd, hc, hg⟩;refine ⟨rfl, ⟨⟨B, mn, ml, vW', hd, Nat.le_trans h2 hc.size, fun b hb => ?_⟩, h.ins.grow hc.size, ?_, h.now.set hs⟩, hc.sub h3⟩
 · rcases hg b hb with x | x
   · exact .inl (h3 b x)
   · exact .inr ⟨x, hd.ins b hb⟩
 · intro x hx
   rcases List.mem_append.1 hx with y | y
   · exact h.ws x y
   · rw [List.mem_singleton.1 y]; exact ⟨by show (0 : Int) <= (k : Int); omega, by show (k : Int) < N; omega, hs⟩
theorem Jxh (h : DkAt w F g N n f fl ws) (hn : n + ws.length <= 1000000) :
  Calls Tryz.prog 61 #[.pointer (some ⟨g, 0, none⟩)] w fun e w' => e = .returned (.int .i64 0) /\ DkAt w' (grow F w w') g N (n + ws.length) f (Jhe fl ws) [] /\ Chg F w w' := by
 obtain ⟨B, mn, ml, vW, h1, h2, h3⟩ := h.ex;have hN := h1.size.2;refine (J05 w h1 (fun x hx => ?_) hn).mono ?_
 · obtain ⟨a, b, c⟩ := h.ws x hx
   refine ⟨?_, by unfold maxLen; omega⟩;have e1 : IntKind.i64.min = -9223372036854775808 /\ IntKind.i64.max = 9223372036854775807 := by decide
   simp [Lit.wf, e1.1, e1.2];omega
 · rintro e w' ⟨rfl, hd, hc⟩
   refine ⟨rfl, ⟨⟨B, mn, ml, _, hd, Nat.le_trans h2 hc.size, fun b hb => ?_⟩, h.ins.grow hc.size, by simp, h.now⟩, hc.sub h3⟩;rcases hb with x | x | x | x
   · exact .inl (h3 b (.inl x))
   · exact .inl (h3 b (.inr (.inl x)))
   · exact .inl (h3 b (.inr (.inr (.inl x))))
   · cases x
theorem J30 (N : Nat) (w : World) (h1 : 1 <= N) (h2 : N <= 4096) :
  Calls Tryz.prog 9 #[.int .i64 (N : Int)] w fun e w' => ∃ g, e = .returned (.pointer (some ⟨g, 0, none⟩)) /\ DkAt w' (made w w') g N 0 (fun _ => none) (fun _ => none) [] /\ Below w.heap.size w w' := by
 refine (J3z N w h1 h2).mono ?_;rintro e w' ⟨g, mn, ml, rfl, hd, hb, hl⟩;exact ⟨g, rfl, ⟨⟨_, mn, ml, _, hd, hb.size, fun b hx => ⟨hl b hx, hd.ins b hx⟩⟩, Ins.made, by simp, Jqq.none⟩, hb⟩
end
structure DkW (w0 : World) (F : Nat -> Prop) (w : World) (g N n : Nat) (f fl : Int -> Option ByteArray) (ws : List (Int × ByteArray)) : Prop where
 at_ : DkAt w (grow F w0 w) g N n f fl ws
 chg : Chg F w0 w
 ins : Ins F w0
section
variable {w0 w w' : World} {F G : Nat -> Prop} {g N n n' : Nat} {f f' fl fl' : Int -> Option ByteArray} {ws ws' : List (Int × ByteArray)}
theorem DkW.start (h : DkAt w F g N n f fl ws) : DkW w F w g N n f fl ws := ⟨h.sub (fun _ => .inl) (h.ins.grow (Nat.le_refl _)), Chg.refl _ _, h.ins⟩
theorem DkW.mk' (h : DkAt w F g N n f fl ws) (k : DkAt w' (grow F w w') g N n' f' fl' ws') (hc : Chg F w w') : DkW w F w' g N n' f' fl' ws' := ⟨k, hc, h.ins⟩
theorem DkW.trans (h : DkW w0 F w g N n f fl ws) (k : DkW w (grow F w0 w) w' g N n' f' fl' ws') : DkW w0 F w' g N n' f' fl' ws' :=
 ⟨by have := k.at_; rwa [grow_grow F h.chg.size k.chg.size] at this, h.chg.seq k.chg, h.ins⟩
theorem DkW.below (h : DkW w0 F w g N n f fl ws) (hb : Below w.heap.size w w') : DkW w0 F w' g N n f fl ws :=
 ⟨(h.at_.below hb).sub (fun _ x => Jda x hb.size) (h.ins.grow (Nat.le_trans h.chg.size hb.size)), h.chg.then_below hb, h.ins⟩
theorem DkW.write (h : DkW w0 F w g N n f fl ws) (k : Nat) (hk : k < N) (s : ByteArray) (hs : s.size = 256) (hn : n <= 1000000) (hws : ws.length <= 1000000) :
  Calls Tryz.prog 11 #[.pointer (some ⟨g, 0, none⟩), .int .i64 (k : Int), .string s] w fun e w' => e = .returned (.int .i64 0) /\ DkW w0 F w' g N (n + 1) (setS f k s) fl (ws ++ [((k : Int), s)]) := by
 refine (Jxg h.at_ k hk s hs hn hws).mono ?_;rintro e w' ⟨rfl, hd, hc⟩;exact ⟨rfl, h.trans (DkW.mk' h.at_ hd hc)⟩
theorem DkW.flush (h : DkW w0 F w g N n f fl ws) (hn : n + ws.length <= 1000000) :
  Calls Tryz.prog 61 #[.pointer (some ⟨g, 0, none⟩)] w fun e w' => e = .returned (.int .i64 0) /\ DkW w0 F w' g N (n + ws.length) f (Jhe fl ws) [] := by
 refine (Jxh h.at_ hn).mono ?_;rintro e w' ⟨rfl, hd, hc⟩;exact ⟨rfl, h.trans (DkW.mk' h.at_ hd hc)⟩
theorem DkW.back {w1 : World} (h : DkW w1 F w' g N n f fl ws) (hb : Below w0.heap.size w0 w1) (hi : Ins F w0) : DkW w0 F w' g N n f fl ws :=
 ⟨h.at_.sub (fun _ x => Jvp x hb.size) (hi.grow (Nat.le_trans hb.size h.chg.size)), Chg.after_below hb h.chg (fun _ x => .inl x), hi⟩
theorem Ins.not (h : Ins F w) : ¬ F w.heap.size := fun x => by have := h _ x; omega
end
structure Jex (N C B D R : Nat) : Prop where
 n : 64 <= N /\ N <= 4096
 c : C = N / 200 + 10
 b : B = 28 + N / 200
 d : D = 38 + 2 * (N / 200)
 r : R = (N - D) / 2
theorem Jex.bd {N C B D R : Nat} (h : Jex N C B D R) : 10 <= C /\ C <= 30 /\ B = 18 + C /\ D = 18 + 2 * C /\ D <= N /\ 2 * R <= N - D := by
 obtain ⟨h1, h2, h3, h4, h5⟩ := h;omega
abbrev Jcv (N C B D R : Nat) (d : Addr) (gen id mp bk : Nat) (lg : Option Addr) (bad : Int) : Array Value :=
 #[.int .i64 (N : Int), .int .i64 2, .int .i64 18, .int .i64 (B : Int), .int .i64 (C : Int), .int .i64 (D : Int), .int .i64 (R : Int), .pointer (some d), .int .u64 (gen : Int), .int .u64 (id : Int), .map (some mp), .pointer (some ⟨bk, 0, none⟩), .pointer lg, .int .i64 bad]
def Jcb (B gen : Nat) : Nat := if gen % 2 = 1 then 18 else B
section
variable {w : World} {g N C B D R gen id mp bk : Nat} {d : Addr} {lg : Option Addr} {bad : Int}
theorem Jsg (k : Nat) (h : Bx w g 48 (Jcv N C B D R d gen id mp bk lg bad)) :
  Calls Tryz.prog 64 #[.pointer (some ⟨g, 0, none⟩), .int .u64 (k : Int)] w fun e w' => e = .returned (.int .i64 (Jcb B k : Int)) /\ w = w' := by
 have x2 := h.at_ 2 (v := .int .i64 18) rfl;have x3 := h.at_ 3 (v := .int .i64 (B : Int)) rfl;clear h;by_cases hk : k % 2 = 1
 · have HE := zI (show Jcb B k = 18 from if_pos hk)
   have d1 : ((k : Int) % 2 == 1) = true := by rw [beq_iff_eq]; omega
   go_enter Tryz.func64, Tryz.ntmps64;go_wp2_with fail
   go_ret;rw [HE.out];exact ⟨rfl, rfl⟩
 · have HE := zI (show Jcb B k = B from if_neg hk)
   have d1 : ((k : Int) % 2 == 1) = false := by rw [beq_eq_false_iff_ne]; omega
   go_enter Tryz.func64, Tryz.ntmps64;go_wp2_with fail
   go_ret;rw [HE.out];exact ⟨rfl, rfl⟩
theorem Jhf (h : Bx w g 48 (Jcv N C B D R d gen id mp bk lg bad)) :
  Calls Tryz.prog 40 #[.pointer (some ⟨g, 0, none⟩)] w fun e w' => e = .returned (.bool false) /\ w = w' := by
 have x7 := h.at_ 7 (v := .pointer (some d)) rfl;clear h;go_enter Tryz.func40, Tryz.ntmps40;go_wp2_with fail
 go_ret;exact ⟨rfl, rfl⟩
end
theorem J06 (k : Nat) (w : World) (h : k < 5) : Calls Tryz.prog 75 #[.int .i64 (k : Int)] w fun e w' => e = .returned (.string ⟨#[108, 105, 118, 101]⟩) /\ w = w' := by
 have d1 : decide ((5 : Int) <= (k : Int)) = false := decide_eq_false (by omega);go_enter Tryz.func75, Tryz.ntmps75;go_wp2_with fail
 go_ret;exact ⟨rfl, rfl⟩
theorem J31 (w : World) : Calls Tryz.prog 68 #[.agg #[.string ByteArray.empty, .slice none 0 0]] w fun e w' => e = .returned (.bool true) /\ Below w.heap.size w w' := by
 have hb := (Below.refl w.heap.size w).alloc (Nat.le_refl _) (.cells #[.string ByteArray.empty, .slice none 0 0] 63);have hT : ∀ W, Tis W none 0 [] := fun W => ⟨Sl.nil _ _, rfl, by unfold maxLen; omega, by simp⟩;have HS := zI (fun W => Py.same_any ByteArray.empty ByteArray.empty none none 0 0 0 0 [] [] W (hT W) (hT W));have HB := zI hb;clear hb hT;go_enter Tryz.func68, Tryz.ntmps68;go_wp2_with fail
 refine (HS.out _).mono ?_;rintro e w1 ⟨rfl, hb1⟩;have HB1 := zI (HB.out.trans (hb1.mono HB.out.size));have HE := zI (show Py.sameP ByteArray.empty ByteArray.empty [] [] = true from Py.sameP_iff.2 ⟨rfl, rfl⟩);rw [HE.out];clear hb1;go_wp2_with fail
 go_ret;exact ⟨rfl, HB1.out⟩
theorem sF : (⟨#[102, 114, 101, 115, 104]⟩ : ByteArray).data.toList = Led.nF := rfl
theorem sL : (⟨#[108, 105, 118, 101]⟩ : ByteArray).data.toList = Led.nL := rfl
theorem J32 {FB : Nat -> Prop} {g N C B D R gen id mp bk n c : Nat} {d : Addr} {lg : Option Addr} {bad : Int} {us zs : List Int} {b m : Option (List Int)} {A : Option Addr} (w : World)
  (hX : Bx w g 48 (Jcv N C B D R d gen id mp bk lg bad)) (hB : Led.BookAt w FB bk (D : Int) ((N - D : Nat) : Int) us (Led.w3 none b m)) (hg : ¬ FB g) (hz : Ints w .i64 A n zs) (hA : AIn (fun x => ¬ FB x) A)
  (hne : zs ≠ []) (hnd : zs.Nodup) (hin : ∀ z ∈ zs, (D : Int) <= z /\ z < (N : Int) /\ z ∉ us) (hDN : D <= N) :
  Calls Tryz.prog 74 #[.pointer (some ⟨g, 0, none⟩), .string ⟨#[108, 105, 118, 101]⟩, .slice A n c] w fun e w' => e = .returned (.bool true) /\ (∃ F', Led.BookAt w' F' bk (D : Int) ((N - D : Nat) : Int) (Led.insAll us zs) (Led.w3 none (some (Led.insAll (b.getD []) zs)) m) /\ ∀ x, F' x -> grow FB w w' x) /\ Chg FB w w' := by
 have hfw := hB.few;have hsum := Led.w3_sum none b m;have hris := hB.rising;have hrng := hB.rng;have hzn : zs.map (Value.int .i64) ≠ [] := by simpa using hne
 obtain ⟨zb, zo, rfl, hzb, _⟩ := hz.sl.at_ hzn;have hzF : ¬ FB zb := hA _ rfl;obtain ⟨k, hk⟩ : ∃ k : Nat, (k : Int) = ((N - D : Nat) : Int) - us.length := ⟨N - D - us.length, by omega⟩
 have HOP : Hid (Calls Tryz.prog 144 #[.pointer (some ⟨bk, 0, none⟩)] w fun e w' => e = .returned (.int .i64 (k : Int)) /\ Below w.heap.size w w') := by
  have X := Led.open_b w hB;rw [hsum, Int.sub_zero, <- hk] at X;exact zI X
 have HHB := zI hB;have HHX := zI hX;have HHZ := zI hz;have HIN := zI hin;have HND := zI hnd;have HRI := zI hris;have HRN := zI hrng;have HK := zI hk;have x11 := hX.at_ 11 (v := .pointer (some ⟨bk, 0, none⟩)) rfl;have HSM := zI hsum;have HFW := zI hfw;clear hB hX hz hin hnd hrng hris hsum hk hfw;go_enter Tryz.func74, Tryz.ntmps74;go_wp2_with fail
 refine HOP.out.mono ?_;rintro e w1 ⟨rfl, hb1⟩;have HB1 := zI (HHB.out.below hb1);have HX1 := zI (HHX.out.below hb1);have HZ1 := zI (HHZ.out.below hb1);have HC1 := zI (Chg.of_below (F := FB) hb1);have hs1 := hb1.size
 have HRS : Hid (Calls Tryz.prog 145 #[.pointer (some ⟨bk, 0, none⟩), .string ⟨#[102, 114, 101, 115, 104]⟩, .int .i64 (k : Int)] w1 fun e w' => e = .returned (.int .i64 0) /\ Led.BookAt w' (grow FB w1 w') bk (D : Int) ((N - D : Nat) : Int) us (Led.w4 (k : Int) none b m) /\ Chg FB w1 w') := by
  have X := Led.reserve_b ⟨#[102, 114, 101, 115, 104]⟩ (k : Int) w1 HB1.out (by decide) ⟨by omega, by rw [HSM.out]; have := HK.out; omega⟩ (by have := Led.w3_len none b m; omega);rw [sF, Led.res4] at X;exact zI X
 have y11 := HX1.out.at_ 11 (v := .pointer (some ⟨bk, 0, none⟩)) rfl;clear x11 hb1;go_wp2_with fail
 refine HRS.out.mono ?_;rintro e w2 ⟨rfl, hB2, hc2⟩;have HC2 := zI (HC1.out.trans hc2 (fun _ h => .inl h));have HX2 := zI (HX1.out.chg hc2 hg);have HZ2 := zI (HZ1.out.chg hc2 (fun a e => by cases e; exact hzF));obtain ⟨F2, hF2⟩ : ∃ F2, F2 = grow FB w1 w2 := ⟨_, rfl⟩;have HF2 := zI hF2;rw [<- hF2] at hB2;have HI2 := zI hB2.ins;have hg2 : ¬ F2 g := by rw [hF2]; rintro (h | h); exact hg h; exact absurd h.1 (by have := HX1.out.lt; omega)
 have hz2 : ¬ F2 zb := by rw [hF2]; rintro (h | h); exact hzF h; exact absurd h.1 (by omega)
 have hs2 : w1.heap.size <= w2.heap.size := hc2.size
 have HDR : Hid (Calls Tryz.prog 146 #[.pointer (some ⟨bk, 0, none⟩), .string ⟨#[102, 114, 101, 115, 104]⟩, .int .i64 (k : Int)] w2 fun e w' => ∃ r O, e = .returned (.tuple #[r, .int .i64 0]) /\ O = (Led.freeIn (D : Int) us ((N - D : Nat) : Int).toNat).take (k : Int).toNat /\ w'.ownsRow w2.heap.size 3 1 r O.length (O.map (Value.int .i64)) /\ Led.DrawLaw (D : Int) ((N - D : Nat) : Int) us (k : Int) O /\ Led.BookAt w' F2 bk (D : Int) ((N - D : Nat) : Int) (Led.insAll us O) (Led.w3 (some (Led.insAll [] O)) b m) /\ Chg F2 w2 w') := by
  have X := Led.draw_b ⟨#[102, 114, 101, 115, 104]⟩ (k : Int) w2 hB2 (by decide) (by omega) (Led.find4 (k : Int) none b m) (Int.le_refl _);rw [sF] at X;refine zI (X.mono ?_);rintro e w' ⟨r, O, h1, h2, h3, h4, h5, h6⟩;rw [Led.draw4] at h5;exact ⟨r, O, h1, h2, h3, h4, h5, h6⟩
 have z11 := HX2.out.at_ 11 (v := .pointer (some ⟨bk, 0, none⟩)) rfl;clear y11 hB2 hF2 hc2;go_wp2_with fail
 refine HDR.out.mono ?_;rintro e w3 ⟨r, O, rfl, hO, hown, hDL, hB3, hc3⟩;have hOr : Led.Rising O := by rw [hO]; exact (List.Pairwise.sublist (List.take_sublist _ _) (Led.rising_freeIn _ _ _))
 rw [Led.insAll_self hOr] at hB3;obtain ⟨Ar, cr, rfl, hints⟩ := Led.own_ints hown (fun z hz => by have := hDL.fresh z hz; have := HFW.out; exact Led.wf_i64 (by omega)) (by have := hDL.len; have := HFW.out; have := HK.out; unfold maxLen; omega);have HOE := zI (fun O2 (h1 : ∀ z ∈ zs, z ∈ O) (h2 : O2 = (Led.outAll (Led.lessU O zs) O).2) => Led.take_used (f := (D : Int)) (n := ((N - D : Nat) : Int)) (us := us) (out := O) (O := zs) (O2 := O2) (by omega) HRI.out HRN.out (by rw [hO, HK.out]) h1 h2)
 have hzO : ∀ z ∈ zs, z ∈ O := fun z hz => by
  have hl := Led.freeIn_len (f := (D : Int)) (us := us) (n := ((N - D : Nat) : Int).toNat) HRI.out (fun z hz => by have := HRN.out z hz; omega);rw [hO, List.take_of_length_le (by have := HK.out; omega), Led.mem_freeIn];obtain ⟨q1, q2, q3⟩ := HIN.out z hz;exact ⟨q1, by omega, q3⟩
 have HZO := zI hzO;have hrb : ∀ x, (Value.slice Ar O.length cr).ownBlock = some x -> w2.heap.size <= x := fun x e => (hown.lt x e).1;have HX3 := zI (HX2.out.chg hc3 hg2);have HZ3 := zI (HZ2.out.chg hc3 (fun a e => by cases e; exact hz2));have HC3 := zI (HC2.out.trans hc3 (fun x h => by rw [HF2.out] at h; exact h.imp (fun h => h) fun h => by have := h.1; omega));have hs3 : w2.heap.size <= w3.heap.size := hc3.size
 have hri : AIn (fun x => ¬ F2 x /\ x < w3.heap.size) Ar := fun a e => by
  subst e;have := hown.lt a.block rfl;exact ⟨fun h => by have := HI2.out _ h; omega, this.2⟩
 have HRW := zI hri;have HIT := zI hints
 have HMV : Hid (Calls Tryz.prog 147 #[.pointer (some ⟨bk, 0, none⟩), .string ⟨#[102, 114, 101, 115, 104]⟩, .string ⟨#[108, 105, 118, 101]⟩, .slice (some ⟨zb, zo, none⟩) n c] w3 fun e w' => e = .returned (.int .i64 (zs.length : Int)) /\ Led.BookAt w' (grow F2 w3 w') bk (D : Int) ((N - D : Nat) : Int) (Led.insAll us O) (Led.w3 (some (Led.lessU O zs)) (some (Led.insAll (b.getD []) zs)) m) /\ Chg F2 w3 w') := by
  have X := Led.move_b ⟨#[102, 114, 101, 115, 104]⟩ ⟨#[108, 105, 118, 101]⟩ (some ⟨zb, zo, none⟩) n c zs w3 hB3 (by decide) (by decide) HZ3.out (by have := HZ3.out.len; have := hDL.len; have h3 := Led.nodup_le HND.out hzO; have := HFW.out; have := HK.out; omega) (by have := Led.w3_len (some O) b m; omega);rw [sF, sL, Led.hF3, show (some O).getD [] = O from rfl, Led.outAll_all HND.out hzO, Led.move_L zs O b m hne] at X;exact zI X
 have HOL := zI (show O.length <= 4096 from by have := hDL.len; have := HFW.out; have := HK.out; omega);have z11' := HX3.out.at_ 11 (v := .pointer (some ⟨bk, 0, none⟩)) rfl;clear z11 hB3 hc3 hO hown hints hDL hOr hzO hrb hri;go_wp2_with fail
 refine HMV.out.mono ?_;rintro e w4 ⟨rfl, hB4, hc4⟩;obtain ⟨F4, hF4⟩ : ∃ F4, F4 = grow F2 w3 w4 := ⟨_, rfl⟩;have HF4 := zI hF4;rw [<- hF4] at hB4;have hg4 : ¬ F4 g := by rw [hF4]; rintro (h | h); exact hg2 h; exact absurd h.1 (by have := HX3.out.lt; omega)
 have HX4 := zI (HX3.out.chg hc4 hg2);have HI4 := zI (HIT.out.chg hc4 (fun a e => (HRW.out a e).1));have hs4 : w3.heap.size <= w4.heap.size := hc4.size;have HC4 := zI (HC3.out.trans hc4 (fun x h => by rw [HF2.out] at h; exact h.imp (fun h => h) fun h => by have := h.1; omega))
 have HRT : Hid (Calls Tryz.prog 148 #[.pointer (some ⟨bk, 0, none⟩), .string ⟨#[102, 114, 101, 115, 104]⟩, .slice Ar O.length cr] w4 fun e w' => ∃ O2, e = .returned (.int .i64 (O2.length : Int)) /\ O2 = (Led.outAll (Led.lessU O zs) O).2 /\ Led.BookAt w' F4 bk (D : Int) ((N - D : Nat) : Int) (Led.lessU (Led.insAll us O) O2) (Led.w4 O2.length (some (Led.lessU (Led.lessU O zs) O2)) (some (Led.insAll (b.getD []) zs)) m) /\ Chg F4 w4 w') := by
  have X := Led.return_b ⟨#[102, 114, 101, 115, 104]⟩ Ar O.length cr O w4 hB4 (by decide) HI4.out (by have := HOL.out; omega);rw [sF, Led.hF3, show (some (Led.lessU O zs)).getD [] = Led.lessU O zs from rfl] at X;refine zI (X.mono ?_);rintro e w' ⟨h1, h2, h3⟩;rw [Led.ret3] at h2;exact ⟨_, h1, rfl, h2, h3⟩
 have y11 := HX4.out.at_ 11 (v := .pointer (some ⟨bk, 0, none⟩)) rfl;clear z11' hB4 hF4 hc4;go_wp2_with fail
 refine HRT.out.mono ?_;rintro e w5 ⟨O2, rfl, hO2, hB5, hc5⟩;have HX5 := zI (HX4.out.chg hc5 hg4)
 have HC5 := zI (HC4.out.trans hc5 (fun x h => by
  rw [HF4.out] at h;rcases h with h | h
  · rw [HF2.out] at h; exact h.imp (fun h => h) fun h => by have := h.1; omega
  · exact .inr (by have := h.1; omega)))
 have HUS := zI (HOE.out O2 HZO.out hO2);have hs5 : w4.heap.size <= w5.heap.size := hc5.size
 have HCL : Hid (Calls Tryz.prog 149 #[.pointer (some ⟨bk, 0, none⟩), .string ⟨#[102, 114, 101, 115, 104]⟩] w5 fun e w' => (∃ q, e = .returned (.int .i64 q)) /\ Led.BookAt w' F4 bk (D : Int) ((N - D : Nat) : Int) (Led.insAll us zs) (Led.w3 none (some (Led.insAll (b.getD []) zs)) m) /\ Chg F4 w5 w') := by
  have X := Led.close_b ⟨#[102, 114, 101, 115, 104]⟩ w5 hB5 (by decide);rw [sF, Led.held4, Led.close4, show (some (Led.lessU (Led.lessU O zs) O2)).getD [] = Led.lessU (Led.lessU O zs) O2 from rfl, HUS.out.1] at X;refine zI (X.mono ?_);rintro e w' ⟨h1, h2, h3⟩;exact ⟨⟨_, h1⟩, h2, h3⟩
 have x11 := HX5.out.at_ 11 (v := .pointer (some ⟨bk, 0, none⟩)) rfl;clear y11 hB5 hc5;go_wp2_with fail
 refine HCL.out.mono ?_;rintro e w6 ⟨⟨q, rfl⟩, hB6, hc6⟩;have hE : ((zs.length : Int) == (n : Int)) = true := by rw [HHZ.out.len]; simp
 have HB6 := zI hB6
 have HC6 := zI (HC5.out.trans hc6 (fun x h => by
  rw [HF4.out] at h;rcases h with h | h
  · rw [HF2.out] at h; exact h.imp (fun h => h) fun h => by have := h.1; omega
  · exact .inr (by have := h.1; omega)))
 have HSB := zI (show ∀ x, F4 x -> grow FB w w6 x from fun x h => by
  have h6 := hc6.size;rw [HF4.out] at h;rcases h with h | h
  · rw [HF2.out] at h
    exact h.imp (fun h => h) fun h => ⟨by have := h.1; omega, by have := h.2; omega⟩
  · exact .inr ⟨by have := h.1; omega, by have := h.2; omega⟩)
 clear hB6 hc6 x11;go_wp2_with fail
 go_ret;exact ⟨rfl, ⟨F4, HB6.out, HSB.out⟩, HC6.out⟩
end Go.Proofs.YtalkkhafcfhglaaGreatDoor
