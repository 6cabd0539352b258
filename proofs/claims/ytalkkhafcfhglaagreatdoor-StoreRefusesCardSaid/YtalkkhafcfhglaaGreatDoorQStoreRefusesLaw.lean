/-
  Several texts in one: Rfa, StoW, Rfb, Short, StoreRefuses, StoreRefusesFit, StoreRefusesFitB.
-/
import Derived.Test.YtalkkhafcfhglaaGreatDoorRows
import Derived.JoinedCond
import Derived.Test.YtalkkhafcfhglaaGreatDoorQ44
set_option maxRecDepth 100000
set_option maxHeartbeats 4000000
namespace Go.Proofs.YtalkkhafcfhglaaGreatDoor
open Go.RowKit
abbrev zLay : Value := .agg #[.int .i64 0, .int .i64 0, .int .i64 0, .int .i64 0, .int .i64 0, .int .i64 0, .int .i64 0]
set_option linter.unusedSimpArgs false in
theorem Js7 (N : Int) (w : World) (h : N < 64 \/ 4096 < N) :
  Calls Tryz.prog 12 #[.int .i64 N] w fun e w' => e = .returned (.tuple #[zLay, .int .i64 1]) /\ Below w.heap.size w w' := by
 have HB := zI (Below.refl w.heap.size w);have HBA := zI (fun o => (Below.refl w.heap.size w).alloc (Nat.le_refl _) o);by_cases h1 : N < 64
 · have d1 : decide (N < 64) = true := decide_eq_true h1
   clear h;go_enter Tryz.func12, Tryz.ntmps12;go_wp2_with fail
   first
   | (refine bodyPost_ret (v := .tuple #[zLay, .int .i64 1]) (by simp [results, Tryz.results12, go_sem]) rfl ⟨rfl, ?_⟩
      first | exact HB.out | exact HBA.out _ | exact ((HBA.out _).alloc (by simp) _))
 · have h2 : 4096 < N := by omega
   have d1 : decide (N < 64) = false := decide_eq_false h1;have d2 : decide (4096 < N) = true := decide_eq_true h2;clear h;go_enter Tryz.func12, Tryz.ntmps12;go_wp2_with fail
   first
   | (refine bodyPost_ret (v := .tuple #[zLay, .int .i64 1]) (by simp [results, Tryz.results12, go_sem]) rfl ⟨rfl, ?_⟩
      first | exact HB.out | exact HBA.out _ | exact ((HBA.out _).alloc (by simp) _))
set_option linter.unusedSimpArgs false in
theorem J1v (N : Int) (w : World) (h : N < 1 \/ 4096 < N) :
  Calls Tryz.prog 9 #[.int .i64 N] w fun e w' => e = .returned (.pointer none) /\ Below w.heap.size w w' := by
 have HB := zI (Below.refl w.heap.size w);by_cases h1 : N < 1
 · have d1 : decide (N < 1) = true := decide_eq_true h1
   clear h;go_enter Tryz.func9, Tryz.ntmps9;go_wp2_with fail
   go_ret;exact ⟨rfl, HB.out⟩
 · have h2 : 4096 < N := by omega
   have d1 : decide (N < 1) = false := decide_eq_false h1;have d2 : decide (4096 < N) = true := decide_eq_true h2;clear h;go_enter Tryz.func9, Tryz.ntmps9;go_wp2_with fail
   go_ret;exact ⟨rfl, HB.out⟩
section
variable {w : World} {F : Nat -> Prop} {g N q : Nat} {f : Int -> Option ByteArray}
set_option linter.unusedSimpArgs false in
theorem DsAt.beyond (h : DsAt w F g N q f) (k : Nat) (hk : N <= k) (hk2 : k <= 100000) :
  Calls Tryz.prog 62 #[.pointer (some ⟨g, 0, none⟩), .int .i64 (k : Int)] w fun e w' => e = .returned (.tuple #[.string ByteArray.empty, .int .i64 15]) /\ Below w.heap.size w w' := by
 obtain ⟨_, _, _, h, _⟩ := h;obtain ⟨_, _, _, _, hd, _⟩ := h.ex;have HO := zI (Jm4 w hd);obtain ⟨wr, left, kA, kn, kc, hb⟩ := hd.ex;have e5 := hb.at_ 5 (v := .int .i64 (N : Int)) rfl;have h1 : decide ((k : Int) < 0) = false := decide_eq_false (by omega);have h2 : decide ((N : Int) <= (k : Int)) = true := decide_eq_true (by omega);have HB := zI (Below.refl w.heap.size w);clear hd hb;go_enter Tryz.func62, Tryz.ntmps62;go_wp2_with fail
 refine HO.out.mono ?_;rintro e w1 ⟨rfl, hw⟩;subst hw;go_wp2_with fail
 go_ret2;exact ⟨rfl, HB.out⟩
theorem DsAt.supread1 (h : DsAt w F g 1 q f) (h0 : Ja5 f 0 = strOf (zeros 256)) :
  Calls Tryz.prog 30 #[.pointer (some ⟨g, 0, none⟩)] w fun e w' => e = .returned (supV (0, 0, 0) 15) /\ Below w.heap.size w w' := by
 have HD := zI h;have HZ0 := zI h0;have hba := ((Below.refl w.heap.size w).alloc (Nat.le_refl _) (.cells #[.int .u64 0, .int .i64 0, .int .i64 0] 83));have hbb := hba.alloc hba.size (.cells #[.int .u64 0, .int .i64 0, .int .i64 0] 83);have hbx := (Bx.new w 83 #[.int .u64 0, .int .i64 0, .int .i64 0]).alloc (.cells #[.int .u64 0, .int .i64 0, .int .i64 0] 83);have hby := Bx.new (w.alloc (.cells #[.int .u64 0, .int .i64 0, .int .i64 0] 83)) 83 #[.int .u64 0, .int .i64 0, .int .i64 0];rw [show (w.alloc (.cells #[.int .u64 0, .int .i64 0, .int .i64 0] 83)).heap.size = w.heap.size + 1 from by simp] at hby;have HBX := zI hbx;have HBY := zI hby;have HBB := zI hbb;clear hba hbb hbx hby h h0;go_enter Tryz.func30, Tryz.ntmps30;go_wp2_with fail
 go_loopw [10] (fun i wr => ∃ k : Nat, k <= 1 /\ i = .int .i64 (k : Int) /\ Bx wr w.heap.size 83 #[.int .u64 0, .int .i64 0, .int .i64 0] /\ Bx wr (w.heap.size + 1) 83 #[.int .u64 0, .int .i64 0, .int .i64 0] /\ Below w.heap.size w wr) (fun i _ => 2 - (intOf i).toNat)
 case atStart => exact ⟨0, by omega, rfl, HBX.out, HBY.out, HBB.out⟩
 case round =>
  obtain ⟨k, hk, rfl, hx, hy, hb⟩ := hrel;have HX := zI hx;have HY := zI hy;have HB := zI hb;by_cases hlt : k = 0
  · subst hlt
    have HRD := zI ((HD.out.below hb).read 0 (by omega));rw [show Ja5 f ((0 : Nat) : Int) = strOf (zeros 256) from HZ0.out] at HRD;clear hx hy hb;go_wp2_with fail
    refine HRD.out.mono ?_;rintro e w2 ⟨rfl, hb2⟩;have HG := zI (Jsh w2);have HX2 := zI (HX.out.below hb2);have HY2 := zI (HY.out.below hb2);have HB2 := zI (HB.out.trans (hb2.mono HB.out.size));clear hb2;go_wp2_with fail
    refine HG.out.mono ?_;rintro e w3 ⟨rfl, hb3⟩;have hb4 := hb3.alloc hb3.size (.cells #[.int .u64 0, .int .i64 0, .int .i64 0] 83);have HX4 := zI (HX2.out.below hb4);have HY4 := zI (HY2.out.below hb4);have HB4 := zI (HB2.out.trans (hb4.mono HB2.out.size));clear hb3 hb4;go_wp2_with fail
    go_roundw
    case rel => exact ⟨1, by omega, by go_num, HX4.out, HY4.out, HB4.out⟩
    case measure => simp [intOf]
  · have hke : k = 1 := by omega
    subst hke;have HRD := zI ((HD.out.below hb).beyond 1 (by omega) (by omega));clear hx hy hb hlt;go_wp2_with fail
    refine HRD.out.mono ?_;rintro e w2 ⟨rfl, hb2⟩;have HB2 := zI (HB.out.trans (hb2.mono HB.out.size));have hx2 := HX.out.below hb2;have x0 := hx2.at_ 0 (v := .int .u64 0) rfl;have x1 := hx2.at_ 1 (v := .int .i64 0) rfl;have x2 := hx2.at_ 2 (v := .int .i64 0) rfl;have f0 := hx2.free 0;have f1 := hx2.free 1;have f2 := hx2.free 2;have HX2 := zI hx2;clear hb2 hx2;go_wp2_with fail
    obtain ⟨w9, hw9⟩ : ∃ w9, w9 = putC w2 w.heap.size 0 [.int .u64 0, .int .i64 0, .int .i64 0] := ⟨_, rfl⟩;have hx9 := Jbv HX2.out [.int .u64 0, .int .i64 0, .int .i64 0] rfl;have hb9 := Jar (B := w.heap.size) [.int .u64 0, .int .i64 0, .int .i64 0] (Nat.le_refl _) w2 0;rw [<- hw9] at hx9 hb9;simp only [putC, Nat.zero_add, Nat.reduceAdd] at hw9;rw [<- hw9];have q0 := hx9.at_ 0 rfl;have q1 := hx9.at_ 1 rfl;have q2 := hx9.at_ 2 rfl;exact bodyPost_ret (v := supV (0, 0, 0) 15) (by simp [results, Tryz.results30, go_sem, q0, q1, q2, supV]) rfl ⟨rfl, HB2.out.trans hb9⟩
end
set_option linter.unusedSimpArgs false in
theorem Jne {w : World} (d : Addr) (c : Int) (hc : c = 28 \/ c = 15) (H : Calls Tryz.prog 30 #[.pointer (some d)] w fun e w' => e = .returned (supV (0, 0, 0) c) /\ Below w.heap.size w w') :
  Calls Tryz.prog 10 #[.pointer (some d)] w fun e w' => e = .returned (.tuple #[.pointer none, .pointer none, .slice none 0 0, .int .i64 c]) /\ Below w.heap.size w w' := by
 unfold supV at H;have HR := zI H;clear H;rcases hc with rfl | rfl
 all_goals
  go_enter Tryz.func10, Tryz.ntmps10;go_wp2_with fail
  refine HR.out.mono ?_;rintro e w1 ⟨rfl, hb1⟩;have HB1 := zI (hb1.alloc hb1.size (.cells #[.int .u64 0, .int .i64 0, .int .i64 0] 83));clear hb1;go_wp2_with fail
  first
  | exact bodyPost_ret (v := .tuple #[.pointer none, .pointer none, .slice none 0 0, .int .i64 28]) (by simp [results, Tryz.results10, go_sem]) rfl ⟨rfl, HB1.out⟩
  | exact bodyPost_ret (v := .tuple #[.pointer none, .pointer none, .slice none 0 0, .int .i64 15]) (by simp [results, Tryz.results10, go_sem]) rfl ⟨rfl, HB1.out⟩
set_option linter.unusedSimpArgs false in
theorem Jpq {w : World} {F : Nat -> Prop} {g N q : Nat} {f : Int -> Option ByteArray} (h : DsAt w F g N q f) (hN : N < 64) (s : Addr) :
  Calls Tryz.prog 8 #[.pointer (some ⟨g, 0, none⟩), .pointer (some s)] w fun e w' => e = .returned (.tuple #[.pointer none, .int .i64 1]) /\ Below w.heap.size w w' := by
 have HBL := zI h.blocks;have HPL := zI (Js7 (N : Int) w (by omega));clear h;go_enter Tryz.func8, Tryz.ntmps8;go_wp2_with fail
 refine HBL.out.mono ?_;rintro e w1 ⟨rfl, hw⟩;subst hw;go_wp2_with fail
 refine HPL.out.mono ?_;rintro e w1 ⟨rfl, hb1⟩;have HB1 := zI (hb1.alloc hb1.size (.cells #[.int .i64 0, .int .i64 0, .int .i64 0, .int .i64 0, .int .i64 0, .int .i64 0, .int .i64 0] 38));clear hb1;go_wp2_with fail
 go_ret2;exact ⟨rfl, HB1.out⟩
set_option linter.unusedSimpArgs false in
theorem Jq0 {w : World} {F FT : Nat -> Prop} {gd N C B D R q gs room : Nat} {f : Int -> Option ByteArray} {t : Tv} (hD : DsAt w F gd N q f) (hL : Jex N C B D R) (hS : StAt w FT gs room t) (hr : room ≠ R) :
  Calls Tryz.prog 8 #[.pointer (some ⟨gd, 0, none⟩), .pointer (some ⟨gs, 0, none⟩)] w fun e w' => e = .returned (.tuple #[.pointer none, .int .i64 20]) /\ Below w.heap.size w w' := by
 have HBL := zI hD.blocks;have HPL := Jh2 N w hL.n.1 hL.n.2;rw [<- hL.d, <- hL.b, <- hL.c, <- hL.r] at HPL;have HPM := zI HPL;clear HPL;have HRO := zI (fun W (hW : Below w.heap.size w W) => Jb9 W (hS.below hW));have hne : ((room : Int) == (R : Int)) = false := by rw [beq_eq_false_iff_ne]; omega
 clear hD hL hS;go_enter Tryz.func8, Tryz.ntmps8;go_wp2_with fail
 refine HBL.out.mono ?_;rintro e w1 ⟨rfl, hw⟩;subst hw;go_wp2_with fail
 refine HPM.out.mono ?_;rintro e w1 ⟨rfl, hb1⟩;obtain ⟨g6, hg6⟩ : ∃ g6, g6 = w1.heap.size := ⟨_, rfl⟩;obtain ⟨w2, hw2⟩ : ∃ w2, w2 = w1.alloc (.cells #[.int .i64 (N : Int), .int .i64 2, .int .i64 18, .int .i64 (B : Int), .int .i64 (C : Int), .int .i64 (D : Int), .int .i64 (R : Int)] 38) := ⟨_, rfl⟩;have hx2 := Bx.new w1 38 #[.int .i64 (N : Int), .int .i64 2, .int .i64 18, .int .i64 (B : Int), .int .i64 (C : Int), .int .i64 (D : Int), .int .i64 (R : Int)];rw [<- hw2, <- hg6] at hx2;have hb2 : Below w.heap.size w w2 := by rw [hw2]; exact hb1.alloc hb1.size _
 have HW2 := zI hw2;have HG6 := zI hg6;have hbd : Below w.heap.size w w2.drew := hb2.drew;have HBD := zI hbd;have hxd := hx2.drew;have y6 := hxd.at_ 6 (v := .int .i64 (R : Int)) rfl;clear hb1 hg6 hw2 hx2 hb2 hbd hxd;go_upto_region 6 with fail
 rw [<- HW2.out, <- HG6.out]
 go_region_held3 (fun w' => w'.cell? ⟨g6, 6, none⟩ = some (.int .i64 (R : Int)) /\ Below w.heap.size w w')
  (exact ⟨y6, HBD.out⟩)
  (first
    | (go_at_call 13
       refine (HRO.out _ ?hv).mono ?_
       case hv => (go_split_ands; assumption)
       rintro e w3 ⟨rfl, rfl⟩))
 clear y6;go_split_ands;go_wp2_with fail
 go_ret2;exact ⟨rfl, HBD.out⟩
set_option linter.unusedSimpArgs false in
theorem Jus (s : Option Addr) (w : World) : Calls Tryz.prog 8 #[.pointer none, .pointer s] w fun e w' => e = .returned (.tuple #[.pointer none, .int .i64 1]) /\ Below w.heap.size w w' := by
 have HB := zI (Below.refl w.heap.size w);go_enter Tryz.func8, Tryz.ntmps8;go_wp2_with fail
 go_ret2;exact ⟨rfl, HB.out⟩
set_option linter.unusedSimpArgs false in
theorem Jut (d : Addr) (w : World) : Calls Tryz.prog 8 #[.pointer (some d), .pointer none] w fun e w' => e = .returned (.tuple #[.pointer none, .int .i64 1]) /\ Below w.heap.size w w' := by
 have HB := zI (Below.refl w.heap.size w);go_enter Tryz.func8, Tryz.ntmps8;go_wp2_with fail
 go_ret2;exact ⟨rfl, HB.out⟩
set_option linter.unusedSimpArgs false in
theorem J1w (w : World) : Calls Tryz.prog 10 #[.pointer none] w fun e w' => e = .returned (.tuple #[.pointer none, .pointer none, .slice none 0 0, .int .i64 1]) /\ Below w.heap.size w w' := by
 have HB := zI (Below.refl w.heap.size w);go_enter Tryz.func10, Tryz.ntmps10;go_wp2_with fail
 exact bodyPost_ret (v := .tuple #[.pointer none, .pointer none, .slice none 0 0, .int .i64 1]) (by simp [results, Tryz.results10, go_sem]) rfl ⟨rfl, HB.out⟩
section
variable {w : World} {gx N C B D R gd gen id mp bk : Nat} {lg : Option Addr}
set_option linter.unusedSimpArgs false in
theorem J1x (h : Bx w gx 48 (Jcv N C B D R ⟨gd, 0, none⟩ gen id mp bk lg 0)) :
  Calls Tryz.prog 14 #[.pointer (some ⟨gx, 0, none⟩), .pointer none] w fun e w' => e = .returned (.int .i64 1) /\ Below w.heap.size w w' := by
 have hdr := (Below.refl w.heap.size w).drew;have HN := zI (Jhf (h.below hdr));have HB := zI hdr;clear h hdr;go_enter Tryz.func14, Tryz.ntmps14;go_upto_region 1 with fail
 first
 | (go_region_with (first
     | (go_at_call 40
        refine HN.out.mono ?_;rintro e w1 ⟨rfl, hw⟩;subst hw)))
 | fail
 all_goals
  go_wp2_with fail
  go_ret;exact ⟨rfl, HB.out⟩
set_option linter.unusedSimpArgs false in
theorem Juu {FT : Nat -> Prop} {gs room : Nat} {t : Tv} (h : Bx w gx 48 (Jcv N C B D R ⟨gd, 0, none⟩ gen id mp bk lg 0)) (hS : StAt w FT gs room t) (hr : room ≠ R) :
  Calls Tryz.prog 14 #[.pointer (some ⟨gx, 0, none⟩), .pointer (some ⟨gs, 0, none⟩)] w fun e w' => e = .returned (.int .i64 1) /\ Below w.heap.size w w' := by
 have hdr := (Below.refl w.heap.size w).drew;have HNN := zI (fun W (hW : Below w.heap.size w W) => Jhf (h.below hW));have HRO := zI (fun W (hW : Below w.heap.size w W) => Jb9 W (hS.below hW));have y6 := (h.below hdr).at_ 6 (v := .int .i64 (R : Int)) rfl;have hne : ((room : Int) == (R : Int)) = false := by rw [beq_eq_false_iff_ne]; omega
 have HB := zI hdr;clear h hS hdr;go_enter Tryz.func14, Tryz.ntmps14;go_upto_region 1 with fail
 go_region_held3 (fun w' => w'.cell? ⟨gx, 6, none⟩ = some (.int .i64 (R : Int)) /\ Below w.heap.size w w')
  (exact ⟨y6, (Below.refl _ _).drew⟩)
  (first
    | (go_at_call 40
       refine (HNN.out _ ?hv).mono ?_
       case hv => (go_split_ands; assumption)
       rintro e w3 ⟨rfl, rfl⟩)
    | (go_at_call 13
       refine (HRO.out _ ?hv).mono ?_
       case hv => (go_split_ands; assumption)
       rintro e w3 ⟨rfl, rfl⟩))
 go_split_ands;go_wp2_with fail
 go_ret;exact ⟨rfl, HB.out⟩
end
def Jpr (r m : Int) : Int := if r < 0 \/ r < m then -1 else r - m
theorem J1y (r : Int) (m : Nat) (g : Nat) (w : World) (hr : -1 <= r /\ r <= 1000000) (hm : m <= maxLen) (h0 : w.cell? ⟨g, 0, none⟩ = some (.int .i64 m)) :
  Calls Tryz.prog 20 #[.int .i64 r, .slice (some ⟨g, 0, none⟩) 1 1] w fun e w' => e = .returned (.int .i64 (Jpr r m)) /\ w = w' := by
 unfold maxLen at hm;obtain ⟨hr1, hr2⟩ := hr;by_cases h1 : r < 0
 · have HF : Hid (Jpr r m = -1) := if_pos (.inl h1)
   go_enter Tryz.func20, Tryz.ntmps20;go_wp2;refine wp_loop_rounds 2 ?_;rw [rounds_succ];go_wp2;go_ret;exact ⟨Jbl HF.out.symm, rfl⟩
 · by_cases h2 : r < m
   · have HF : Hid (Jpr r m = -1) := if_pos (.inr h2)
     go_enter Tryz.func20, Tryz.ntmps20;go_wp2;refine wp_loop_rounds 2 ?_;rw [rounds_succ];go_wp2;go_ret;exact ⟨Jbl HF.out.symm, rfl⟩
   · have HF : Hid (Jpr r m = r - m) := if_neg (by omega)
     go_enter Tryz.func20, Tryz.ntmps20;go_wp2;refine wp_loop_rounds 2 ?_;rw [rounds_succ];go_wp2;rw [rounds_succ];go_wp2;go_ret;exact ⟨Jbl HF.out.symm, rfl⟩
def total (ss : List ByteArray) : Nat := (ss.map ByteArray.size).sum
def Jy1 (n : Nat) (few room : Int) (ss : List ByteArray) (w : World) (e : Ending) (w' : World) : Prop :=
 ∃ b : Bool, e = .returned (.bool b) /\ (b = true -> (n : Int) <= few /\ (total ss : Int) <= room) /\ Below w.heap.size w w'
theorem Juv (l : List ByteArray) (s : ByteArray) : total (l ++ [s]) = total l + s.size := by simp [total]
theorem Juw (ss : List ByteArray) (k : Nat) (h : k < ss.length) : total (ss.take (k + 1)) = total (ss.take k) + ss[k].size := by
 rw [List.take_succ_eq_append_getElem h, Juv]
theorem Jy2 {room r : Int} {ss : List ByteArray} {k : Nat} (h : k < ss.length) (hr : r = -1 \/ (0 <= r /\ r = room - total (ss.take k))) :
  Jpr r ss[k].size = -1 \/ (0 <= Jpr r ss[k].size /\ Jpr r ss[k].size = room - total (ss.take (k + 1))) := by
 unfold Jpr;rcases hr with rfl | ⟨h0, hr⟩
 · exact .inl (if_pos (.inl (by omega)))
 · by_cases hlt : r < ss[k].size
   · exact .inl (if_pos (.inr hlt))
   · rw [if_neg (by omega), Juw ss k h]
     right; omega
theorem Jy3 (ss : List ByteArray) : 0 <= (total ss : Int) := by omega
theorem Jy4 (few room : Int) (A : Option Addr) (n c : Nat) (ss : List ByteArray) (w : World) (hs : Strs w A n ss) (hroom : 0 <= room /\ room <= 1000000) :
  Calls Tryz.prog 5 #[.int .i64 few, .int .i64 room, .slice A n c] w (Jy1 n few room ss w) := by
 have hn := hs.n_le;have hl := hs.len;unfold maxLen at hn;obtain ⟨hr1, hr2⟩ := hroom;by_cases hf : few < n
 · go_enter Tryz.func5, Tryz.ntmps5
   go_wp2;go_ret;exact ⟨false, rfl, by simp, Below.refl _ _⟩
 · have HL := zI hl
   clear hl;go_enter Tryz.func5, Tryz.ntmps5;go_wp2;go_loopw [1, 7] (fun rv i wr => ∃ (k : Nat) (r : Int), k <= n /\ i = .int .i64 k /\ rv = .int .i64 r /\ (r = -1 \/ (0 <= r /\ r = room - total (ss.take k))) /\ Below w.heap.size w wr) (fun _ i _ => n - (intOf i).toNat)
   case atStart => exact ⟨0, room, Nat.zero_le _, rfl, rfl, .inr ⟨by omega, by simp [total]⟩, Below.refl _ _⟩
   case round =>
    obtain ⟨k, r, hk, rfl, rfl, hrel2, hbel⟩ := hrel;have HR := zI hrel2;have hb1 : -1 <= r := by rcases hrel2 with h | h <;> omega
    have hb2 : r <= 1000000 := by have := Jy3 (ss.take k); rcases hrel2 with h | h <;> omega
    clear hrel2;by_cases hlt : k < n
    · by_cases h0 : 0 <= r
      · obtain ⟨b, off, rfl, hb, hc⟩ := (hs.below hbel).get (j := k) (by rw [HL.out]; exact hlt)
        have hsz := hs.size _ (List.getElem_mem (l := ss) (n := k) (by rw [HL.out]; exact hlt));have HX := zI (Jy2 (room := room) (by rw [HL.out]; exact hlt) HR.out);go_wp2_with (go_at_call 20; refine (J1y _ _ _ _ ⟨by omega, by omega⟩ hsz (by simp [go_sem])).mono ?_; rintro e w' ⟨rfl, rfl⟩)
        go_roundw
        case rel => exact ⟨k + 1, _, by omega, by go_num, rfl, HX.out, hbel.alloc hbel.size _⟩
        case measure => simp [intOf]; omega
      · go_wp2
        go_ret;exact ⟨false, rfl, by simp, hbel⟩
    · go_wp2
      go_ret;refine ⟨decide (0 <= r), rfl, fun hd => ?_, hbel⟩;have h0 : 0 <= r := of_decide_eq_true hd;have hr := HR.out;rw [List.take_of_length_le (by rw [HL.out]; omega)] at hr;exact ⟨by omega, by rcases hr with h | h <;> omega⟩
structure GbS (w0 wr : World) (F : Nat -> Prop) (gd N k : Nat) (q : Nat) (f : Int -> Option ByteArray) : Prop where
 disk : DsW w0 F wr gd N q f
 q : q <= 2 * k
 z0 : Ja5 f 0 = strOf (zeros 256)
 z1 : Ja5 f 1 = strOf (zeros 256)
theorem GbS.next {w0 wr w1 : World} {F : Nat -> Prop} {gd N k q : Nat} {f : Int -> Option ByteArray} (h : GbS w0 wr F gd N k q f) (s : ByteArray) (h1 : 1 < k) (hk : DsW w0 F w1 gd N (q + 2) (setS f (k : Int) s)) : GbS w0 w1 F gd N (k + 1) (q + 2) (setS f (k : Int) s) := by
 refine ⟨hk, by have := h.q; omega, ?_, ?_⟩
 · show (setS f _ _ _).getD _ = _
   unfold setS;rw [if_neg (by omega)];exact h.z0
 · show (setS f _ _ _).getD _ = _
   unfold setS;rw [if_neg (by omega)];exact h.z1
theorem Jy5 : ∀ m : Nat, m <= 82 -> wrap64 (bits BinOp.and IntKind.i64 (m : Int) 1023 + 1) = ((m + 1 : Nat) : Int) := by decide +kernel
set_option linter.unusedSimpArgs false in
theorem Jh4 (bl room : Int) (A : Option Addr) (n c : Nat) (ss : List ByteArray) (w : World) (hblw : (Lit.int .i64 bl).wf = true) (hroomw : (Lit.int .i64 room).wf = true) (hs : Strs w A n ss) (hG : Glo w) :
  Calls Tryz.prog 3 #[.int .i64 bl, .int .i64 room, .slice A n c] w fun e w' => e = .returned (.bool true) /\ Below w.heap.size w w' := by
 have hbl := Jkn hblw;have hroom := Jkn hroomw;clear hblw hroomw;have HAL := zI (fun W (hW : Below w.heap.size w W) => (Js4 W (hG.below hW)).mono (fun e w' (hh : e = .returned (.bool true) /\ Below W.heap.size W w') => (show e = .returned (.bool true) /\ Below W.heap.size W w' /\ Below w.heap.size w w' from ⟨hh.1, hh.2, hW.trans (hh.2.mono hW.size)⟩)));by_cases hb2 : 200 < bl
 · have d1 : decide ((200 : Int) < bl) = true := decide_eq_true hb2
   have HA := zI (HAL.out w (Below.refl _ _));clear HAL hG hs hbl hroom;go_enter Tryz.func3, Tryz.ntmps3;go_wp2_with fail
   refine HA.out.mono ?_;rintro e w1 ⟨rfl, _, hb1⟩;have HB1 := zI hb1;clear hb1;go_wp2_with fail
   go_ret;exact ⟨rfl, HB1.out⟩
 have d1 : decide ((200 : Int) < bl) = false := decide_eq_false hb2;have HSH := zI (Jy4 30 8000 A n c ss w hs (by omega));have HSS := zI hs;have HG := zI hG;have HR := zI hroom;have HBL := zI hbl;have HB2 := zI hb2;clear hs hG hroom hbl;go_enter Tryz.func3, Tryz.ntmps3;go_wp2_with fail
 refine HSH.out.mono ?_;rintro e w1 ⟨b, rfl, hyes, hb1⟩;have HB1 := zI hb1;clear hb1;cases b with
 | false =>
   have HA := zI (HAL.out w1 HB1.out);go_wp2_with fail
   refine HA.out.mono ?_;rintro e w2 ⟨rfl, _, hb2'⟩;have HBB := zI hb2';clear hb2';go_wp2_with fail
   go_ret;exact ⟨rfl, HBB.out⟩
 | true =>
   have HN := zI (hyes rfl).1;clear hyes HSH;obtain ⟨r, hr⟩ : ∃ r : Nat, min (max room 0) 4096 = (r : Int) := ⟨(min (max room 0) 4096).toNat, by omega⟩;have hr4 : r <= 4096 := by omega
   have HSN := zI (Jip r Py.webB Py.webNm Py.webTs w1 hr4 (by decide) Py.web_read (HG.out.below HB1.out).m);have HR4 := zI hr4;have HRR := zI hr;clear hr4;go_wp2_with fail
   refine HSN.out.mono ?_;rintro e w2 ⟨gs, rfl, hs2, hb2'⟩;have HB2' := zI (HB1.out.trans (hb2'.mono HB1.out.size));have HS2 := zI (show StAt w2 (made w1 w2) gs r webT from hs2);have HP2 := zI (Below.refl w2.heap.size w2);clear hs2 hb2' HSN;go_wp2_with fail
   refine (Jus (some ⟨gs, 0, none⟩) w2).mono ?_;rintro e w3 ⟨rfl, hb3⟩;have HB3 := zI (HB2'.out.trans (hb3.mono HB2'.out.size));have HS3 := zI (HS2.out.below hb3);have HP3 := zI (HP2.out.trans (hb3.mono HP2.out.size));clear hb3;go_wp2_with fail
   refine (Jxo 90 w3 (by omega) (by omega)).mono ?_;rintro e w4 ⟨g9, rfl, _, hb4⟩;have HB4 := zI (HB3.out.trans (hb4.mono HB3.out.size));have HS4 := zI (HS3.out.below hb4);have HP4 := zI (HP3.out.trans (hb4.mono HP3.out.size));clear hb4;go_wp2_with fail
   refine (Jut ⟨g9, 0, none⟩ w4).mono ?_;rintro e w5 ⟨rfl, hb5⟩;have HB5 := zI (HB4.out.trans (hb5.mono HB4.out.size));have HS5 := zI (HS4.out.below hb5);have HP5 := zI (HP4.out.trans (hb5.mono HP4.out.size));clear hb5;go_wp2_with fail
   refine (J1w w5).mono ?_;rintro e w6 ⟨rfl, hb6⟩;have HB6 := zI (HB5.out.trans (hb6.mono HB5.out.size));have HS6 := zI (HS5.out.below hb6);have HP6 := zI (HP5.out.trans (hb6.mono HP5.out.size));clear hb6;by_cases hb0 : bl < 1
   · have HDB := zI (J1v bl w6 (.inl hb0))
     go_wp2_with fail
     refine HDB.out.mono ?_;rintro e w7 ⟨rfl, hb7⟩;have HA := zI (HAL.out w7 (HB6.out.trans (hb7.mono HB6.out.size)));clear hb7;go_wp2_with fail
     refine HA.out.mono ?_;rintro e w8 ⟨rfl, _, hb8⟩;have HBB := zI hb8;clear hb8;go_wp2_with fail
     go_ret;exact ⟨rfl, HBB.out⟩
   obtain ⟨N, rfl⟩ : ∃ N : Nat, bl = (N : Int) := ⟨bl.toNat, by omega⟩;have hN : 1 <= N /\ N <= 200 := by have := HB2.out; omega
   have HDN := zI (Jxo N w6 (by omega) (by omega));clear HBL hb0 HB2;go_wp2_with fail
   refine HDN.out.mono ?_;rintro e w7 ⟨gd, rfl, hd7, hb7⟩;have HB7 := zI (HB6.out.trans (hb7.mono HB6.out.size));have HS7 := zI (HS6.out.below hb7);have HD7 := zI (show GbS w7 w7 (made w6 w7) gd N 0 0 (fun _ => none) from ⟨DsW.start hd7, Nat.le_refl _, rfl, rfl⟩);have HZ6 := zI HB6.out.size;have HZ67 := zI hb7.size;have HZ26 := zI HP6.out.size;clear hd7 hb7 HDN;go_wp2_with fail
   go_loopw [18] (fun i wr => ∃ (k q : Nat) (f : Int -> Option ByteArray), k <= n /\ i = .int .i64 (k : Int) /\ GbS w7 wr (made w6 w7) gd N k q f) (fun i _ => n - (intOf i).toNat)
   case atStart => exact ⟨0, 0, _, Nat.zero_le _, rfl, HD7.out⟩
   case round =>
    obtain ⟨k, q, f, hk, rfl, hgb⟩ := hrel;have hN2 := hN;have hn30 := HN.out;have HGB := zI hgb;have hBr := HB7.out.trans (hgb.disk.chg.below (B := w.heap.size) (fun x hx => by have h1 := hx.1; have := HZ6.out; omega) HB7.out.size);have HBR := zI hBr;by_cases hkn : k < n /\ k < N
    · have d3 : decide ((k : Int) < (n : Int)) = true := decide_eq_true (by omega)
      have d4 : decide ((k : Int) < (N : Int)) = true := decide_eq_true (by omega);obtain ⟨b, off, rfl, hlt, hcell⟩ := HSS.out.get (j := k) (by rw [HSS.out.len]; exact hkn.1);have hcell' := (hBr.cell (p := ⟨b, off + k, none⟩) hlt).trans hcell;generalize (ss[k]'(by rw [HSS.out.len]; exact hkn.1)) = s at *;by_cases hsz : s.size = 256 /\ 1 < k
      · have d5 : decide ((1 : Int) < (k : Int)) = true := decide_eq_true (by omega)
        have d6 : ((s.size : Int) == 256) = true := by rw [beq_iff_eq]; omega
        have HWR := zI (hgb.disk.write k hkn.2 s hsz.1 (by have := hgb.q; omega));have HSZ := zI hsz;clear hgb hBr hcell hsz;go_wp2_with fail
        refine HWR.out.mono ?_;rintro e wz ⟨rfl, hdz⟩;have HNX := zI (HGB.out.next s HSZ.out.2 hdz);clear hdz;go_wp2_with fail
        go_roundw
        case rel => exact ⟨k + 1, q + 2, _, by omega, by go_num, HNX.out⟩
        case measure => simp [intOf]; omega
      · have HNX := zI (show GbS w7 wr (made w6 w7) gd N (k + 1) q f from ⟨hgb.disk, by have := hgb.q; omega, hgb.z0, hgb.z1⟩)
        have HE : Hid (∃ b1 b2 : Bool, ((s.size : Int) == 256) = b1 /\ decide ((1 : Int) < (k : Int)) = b2 /\ (b1 = false \/ b2 = false)) := zI ⟨_, _, rfl, rfl, by
         by_cases h1 : s.size = 256
         · exact .inr (decide_eq_false (by omega))
         · exact .inl (by rw [beq_eq_false_iff_ne]; omega)⟩
        clear hgb hBr hcell hsz;obtain ⟨b1, b2, e1, e2, e3⟩ := HE.out;rcases e3 with rfl | rfl
        · go_wp2_with fail
          go_roundw
          case rel => exact ⟨k + 1, q, _, by omega, by go_num, HNX.out⟩
          case measure => simp [intOf]; omega
        · cases b1
          all_goals
           go_wp2_with fail
           go_roundw
           case rel => exact ⟨k + 1, q, _, by omega, by go_num, HNX.out⟩
           case measure => simp [intOf]; omega
    · have HD := zI hgb.disk.at_
      have HSR := zI (HS7.out.chg hgb.disk.chg (fun x hx hd => by
       have h1 := hx.2;have h2 := hd.1;have := HZ26.out;omega))
      have HZZ := zI (show Ja5 f 0 = strOf (zeros 256) /\ Ja5 f 1 = strOf (zeros 256) from ⟨hgb.z0, hgb.z1⟩);have HQ := zI (show q <= 400000 from by have := hgb.q; omega);have HZR := zI (show w6.heap.size <= w7.heap.size /\ w7.heap.size <= wr.heap.size from ⟨HZ67.out, hgb.disk.chg.size⟩);have HLA := zI (fun z => (Below.refl wr.heap.size wr).alloc (Nat.le_refl _) (.cells z 38));clear hgb hBr;by_cases hN64 : N < 64
      · obtain ⟨cc, hcc, HOP⟩ : ∃ cc : Int, (cc = 28 /\ 1 < N \/ cc = 15 /\ N = 1) /\ Hid (Calls Tryz.prog 10 #[.pointer (some ⟨gd, 0, none⟩)] wr fun e w' => e = .returned (.tuple #[.pointer none, .pointer none, .slice none 0 0, .int .i64 cc]) /\ Below wr.heap.size wr w') := by
         by_cases h1 : N = 1
         · subst h1
           exact ⟨15, .inr ⟨rfl, rfl⟩, zI (Jne _ 15 (.inr rfl) (HD.out.supread1 HZZ.out.1))⟩
         · refine ⟨28, .inl ⟨rfl, by omega⟩, zI (Jne _ 28 (.inl rfl) ?_)⟩
           exact HD.out.supread (by omega) none none HZZ.out.1 HZZ.out.2
        have H64 := zI hN64
        have HX : Hid (∃ b1 b2 : Bool, decide ((k : Int) < (n : Int)) = b1 /\ decide ((k : Int) < (N : Int)) = b2 /\ (b1 = false /\ ¬ k < n \/ b1 = true /\ b2 = false /\ ¬ k < N)) := zI ⟨_, _, rfl, rfl, by
         by_cases h1 : k < n
         · exact .inr ⟨decide_eq_true (by omega), decide_eq_false (by omega), by omega⟩
         · exact .inl ⟨decide_eq_false (by omega), h1⟩⟩
        obtain ⟨b1, b2, e1, e2, e3⟩ := HX.out
        have HCN : Hid (∃ b4 : Bool, decide ((1 : Int) < (N : Int)) = b4 /\ (cc = 28 \/ cc = 15 /\ b4 = false /\ ¬ 1 < N)) := zI ⟨_, rfl, by
         rcases hcc with ⟨h, _⟩ | ⟨h, h2⟩
         · exact .inl h
         · exact .inr ⟨h, decide_eq_false (by omega), by omega⟩⟩
        clear hcc hkn hN64 hN2 hN;obtain ⟨b4, e5, e6⟩ := HCN.out;rcases e3 with ⟨rfl, e7⟩ | ⟨rfl, rfl, e7⟩
        all_goals
         rcases e6 with rfl | ⟨rfl, rfl, e8⟩
        all_goals
         go_wp2_with fail
        all_goals
         refine HOP.out.mono ?_;rintro e w8 ⟨rfl, hb8⟩;have HPL := zI (Js7 (N : Int) w8 (.inl (by have := H64.out; omega)));have HB8 := zI (HBR.out.trans (hb8.mono HBR.out.size));have HD8 := zI (HD.out.below hb8);clear hb8;go_wp2_with fail
         refine HPL.out.mono ?_;rintro e w9 ⟨rfl, hb9⟩;have hb10 := hb9.alloc hb9.size (.cells #[.int .i64 0, .int .i64 0, .int .i64 0, .int .i64 0, .int .i64 0, .int .i64 0, .int .i64 0] 38);have HFS := zI (Jpq (HD8.out.below hb10) H64.out ⟨gs, 0, none⟩);have HB10 := zI (HB8.out.trans (hb10.mono HB8.out.size));clear hb9 hb10;go_wp2_with fail
         refine HFS.out.mono ?_;rintro e w11 ⟨rfl, hb11⟩;have HA := zI (HAL.out w11 (HB10.out.trans (hb11.mono HB10.out.size)));clear hb11;go_wp2_with fail
         refine HA.out.mono ?_;rintro e wz ⟨rfl, _, hbz⟩;have HBB := zI hbz;clear hbz;go_wp2_with fail
         go_ret;exact ⟨rfl, HBB.out⟩
      · have hLY0 : Jex N (N / 200 + 10) (28 + N / 200) (38 + 2 * (N / 200)) ((N - (38 + 2 * (N / 200))) / 2) := ⟨⟨by omega, by omega⟩, rfl, rfl, rfl, rfl⟩
        have HPL0 := fun W => Jh2 N W (by omega) (by omega);obtain ⟨C, hC⟩ : ∃ C, C = N / 200 + 10 := ⟨_, rfl⟩;obtain ⟨B, hB⟩ : ∃ B, B = 28 + N / 200 := ⟨_, rfl⟩;obtain ⟨D, hD⟩ : ∃ D, D = 38 + 2 * (N / 200) := ⟨_, rfl⟩;obtain ⟨R, hR⟩ : ∃ R, R = (N - D) / 2 := ⟨_, rfl⟩;rw [<- hC, <- hB, <- hD, <- hR] at HPL0 hLY0;have HLY := zI hLY0;have HPL := zI HPL0;have HOP := zI (Jne _ 28 (.inl rfl) (HD.out.supread (by omega) none none HZZ.out.1 HZZ.out.2));have HR26 : Hid (R <= 82) := zI (by omega)
        have HX : Hid (∃ b1 b2 : Bool, decide ((k : Int) < (n : Int)) = b1 /\ decide ((k : Int) < (N : Int)) = b2 /\ (b1 = false /\ ¬ k < n \/ b1 = true /\ b2 = false /\ ¬ k < N)) := zI ⟨_, _, rfl, rfl, by
         by_cases h1 : k < n
         · exact .inr ⟨decide_eq_true (by omega), decide_eq_false (by omega), by omega⟩
         · exact .inl ⟨decide_eq_false (by omega), h1⟩⟩
        clear hC hB hD hR HPL0 hLY0 hkn hN64 hN2 hN;obtain ⟨b1, b2, e1, e2, e3⟩ := HX.out;by_cases hrR : r = R
        · rcases e3 with ⟨rfl, e7⟩ | ⟨rfl, rfl, e7⟩
          all_goals
           go_wp2_with fail
          all_goals
           refine HOP.out.mono ?_;rintro e w8 ⟨rfl, hb8⟩;have HPM := zI (HPL.out w8);have HB8 := zI (HBR.out.trans (hb8.mono HBR.out.size));have HD8 := zI (HD.out.below hb8);have HS8 := zI (HSR.out.below hb8);have HZ8 := zI hb8.size;clear hb8;go_wp2_with fail
           refine HPM.out.mono ?_;rintro e w9 ⟨rfl, hb9⟩;obtain ⟨g6, hg6⟩ : ∃ g6, g6 = w9.heap.size := ⟨_, rfl⟩;obtain ⟨w10, hw10⟩ : ∃ w10, w10 = w9.alloc (.cells #[.int .i64 (N : Int), .int .i64 2, .int .i64 18, .int .i64 (B : Int), .int .i64 (C : Int), .int .i64 (D : Int), .int .i64 (R : Int)] 38) := ⟨_, rfl⟩;have hx10 := Bx.new w9 38 #[.int .i64 (N : Int), .int .i64 2, .int .i64 18, .int .i64 (B : Int), .int .i64 (C : Int), .int .i64 (D : Int), .int .i64 (R : Int)];rw [<- hw10, <- hg6] at hx10;have hb10 : Below w8.heap.size w8 w10 := by rw [hw10]; exact hb9.alloc hb9.size _
           have HW10 := zI hw10;have HG6 := zI hg6;have HX10 := zI hx10;have HB10 := zI (HB8.out.trans (hb10.mono HB8.out.size));have HS10 := zI (HS8.out.below hb10);have HD10 := zI (HD8.out.below hb10);have HL6 := zI (show wr.heap.size <= g6 from Nat.le_trans HZ8.out (by rw [hg6]; exact hb9.size))
           have HLO : Hid (∀ x, grow (made w6 w7) w7 wr x -> gB <= x) := zI (fun x hx => by
            have h1 := HG.out.low;have h2 := HZ6.out;have h3 := HZ67.out;rcases hx with hx | hx
            · have := hx.1; omega
            · have := hx.1; omega)
           have HAP : Hid (∀ x, made w1 w2 x -> ¬ grow (made w6 w7) w7 wr x) := zI (fun x hx hd => by
            have h1 := hx.2;have h2 := HZ26.out;have h3 := HZ67.out;rcases hd with hd | hd
            · have := hd.1; omega
            · have := hd.1; omega)
           have HFR := zI (Jpo w10 HD10.out HLY.out (hrR ▸ HS10.out) HAP.out Jby.want Jby.wv (HG.out.below HB10.out) HLO.out
            (fun v hv => hv.fits HLY.out Jby (by rw [Jhm]; omega) (by show (0 : Nat) < 1000000; omega) (by omega)) (by rw [Jlr]; omega) HQ.out)
           clear hb9 hb10 hg6 hw10 hx10;go_wp2_with fail
           have e10 : w9.alloc (.cells #[.int .i64 (N : Int), .int .i64 2, .int .i64 18, .int .i64 (B : Int), .int .i64 (C : Int), .int .i64 (D : Int), .int .i64 (R : Int)] 38) = w10 := HW10.out.symm;rw [e10, <- HG6.out];clear e10;refine HFR.out.mono ?_;rintro e w11 ⟨gx, FB, FD, mp, bk, gl, ps, v, q', rfl, hv, hq', hs11, hgx, hFB, hFD, hc11, hmp, hgl⟩;have HX11 := zI hs11.st.box;have HS11 := zI (HS10.out.chg hc11 (fun x hx hd => HAP.out x hx hd))
           have HB11 := zI (HB10.out.trans (hc11.below (B := w.heap.size) (fun x hx => by
            have h2 := HZ6.out;have h3 := HZ67.out;rcases hx with hx | hx
            · have := hx.1; omega
            · have := hx.1; omega) HB10.out.size))
           have y6 := (HX10.out.chg hc11 (fun hx => by
            have h6 := HL6.out;have h3 := HZR.out;rcases hx with hx | hx
            · have := hx.2; omega
            · have := hx.2; omega)).at_ 6 (v := .int .i64 (R : Int)) rfl
           have HRQ := zI (show ∀ q, Calls Tryz.prog 13 #[.pointer (some ⟨gs, 0, none⟩)] (w11.drewN q) fun e w' => e = .returned (.int .i64 (r : Int)) /\ w' = w11.drewN q from fun q => (Jb9 _ (HS11.out.below (below_drewN (Below.refl _ _) q))).mono (fun _ _ ⟨h1, h2⟩ => ⟨h1, h2.symm⟩));rw [hrR] at HRQ;clear hv hq' hs11 hgx hFB hFD hc11 hmp hgl;go_upto_region 25 with fail
           go_quiet ((go_at_call 13; exact Calls.quiet_of_same (HRQ.out _)))
           obtain ⟨w12, hw12⟩ : ∃ w12, w12 = w11.drewN nq := ⟨_, rfl⟩;have HB12 := zI (show Below w.heap.size w w12 from by rw [hw12]; exact below_drewN HB11.out nq);have hb12 : Below w11.heap.size w11 w12 := by rw [hw12]; exact below_drewN (Below.refl _ _) nq
           have HX12 := zI (HX11.out.below hb12);have HS12 := zI (HS11.out.below hb12);have HRS := zI (Jb9 w12 HS12.out);rw [hrR] at HRS;have HSM := zI (Jy5 R HR26.out);have HSN := zI (Jip (R + 1) Py.webB Py.webNm Py.webTs w12 (by have := HR26.out; omega) (by decide) Py.web_read (HG.out.below HB12.out).m);rw [<- hw12];clear hw12 hb12 y6;go_upto_region 31 with fail
           go_wp2_with fail
           refine HRS.out.mono ?_;rintro e w13 ⟨rfl, hw13⟩;subst hw13;go_wp2_with fail
           rw [HSM.out];refine HSN.out.mono ?_;rintro e w14 ⟨go, rfl, hs14, hb14⟩;have HO14 := zI hs14;have HX14 := zI (HX12.out.below hb14);have HS14 := zI (HS12.out.below hb14);have HB14 := zI (HB12.out.trans (hb14.mono HB12.out.size));have HA14 := zI (HAL.out w14 HB14.out);clear hs14 hb14;go_wp2_with fail
           refine HA14.out.mono ?_;rintro e w15 ⟨rfl, hb15, hb15'⟩;have HX15 := zI (HX14.out.below hb15);have HS15 := zI (HS14.out.below hb15);have HO15 := zI (HO14.out.below hb15);have HB15 := zI hb15';have HSN15 := zI (J1x HX15.out);clear hb15 hb15';go_wp2_with fail
           refine HSN15.out.mono ?_;rintro e w16 ⟨rfl, hb16⟩;have HX16 := zI (HX15.out.below hb16);have HO16 := zI (HO15.out.below hb16);have HB16 := zI (HB15.out.trans (hb16.mono HB15.out.size));have HRO := zI (Jb9 w16 HO16.out);have HRS' := zI (Jb9 w16 (HS15.out.below hb16));rw [hrR] at HRS';have HSO := zI (Juu HX16.out HO16.out (by omega));have hne2 : (((R + 1 : Nat) : Int) == (R : Int)) = false := by rw [beq_eq_false_iff_ne]; omega
           obtain ⟨R1, hR1⟩ : ∃ R1, R1 = R + 1 := ⟨_, rfl⟩;rw [<- hR1] at hne2 HRO;clear hb16 hR1;go_wp2_with fail
           refine HRO.out.mono ?_;rintro e w17 ⟨rfl, hw17⟩;subst hw17;go_wp2_with fail
           refine HRS'.out.mono ?_;rintro e w17 ⟨rfl, hw17⟩;subst hw17;go_wp2_with fail
           refine HSO.out.mono ?_;rintro e w17 ⟨rfl, hb17⟩;have HB17 := zI (HB16.out.trans (hb17.mono HB16.out.size));clear hb17;go_wp2_with fail
           go_ret;exact ⟨rfl, HB17.out⟩
        · have hne : ((R : Int) == (r : Int)) = false := by rw [beq_eq_false_iff_ne]; omega
          have HNE := zI hrR;clear hrR;rcases e3 with ⟨rfl, e7⟩ | ⟨rfl, rfl, e7⟩
          all_goals
           go_wp2_with fail
          all_goals
           refine HOP.out.mono ?_;rintro e w8 ⟨rfl, hb8⟩;have HPM := zI (HPL.out w8);have HB8 := zI (HBR.out.trans (hb8.mono HBR.out.size));have HD8 := zI (HD.out.below hb8);have HS8 := zI (HSR.out.below hb8);clear hb8;go_wp2_with fail
           refine HPM.out.mono ?_;rintro e w9 ⟨rfl, hb9⟩;obtain ⟨g6, hg6⟩ : ∃ g6, g6 = w9.heap.size := ⟨_, rfl⟩;obtain ⟨w10, hw10⟩ : ∃ w10, w10 = w9.alloc (.cells #[.int .i64 (N : Int), .int .i64 2, .int .i64 18, .int .i64 (B : Int), .int .i64 (C : Int), .int .i64 (D : Int), .int .i64 (R : Int)] 38) := ⟨_, rfl⟩;have hx10 := Bx.new w9 38 #[.int .i64 (N : Int), .int .i64 2, .int .i64 18, .int .i64 (B : Int), .int .i64 (C : Int), .int .i64 (D : Int), .int .i64 (R : Int)];rw [<- hw10, <- hg6] at hx10;have hb10 : Below w8.heap.size w8 w10 := by rw [hw10]; exact hb9.alloc hb9.size _
           have HW10 := zI hw10;have HG6 := zI hg6;have HX10 := zI hx10;have HB10 := zI (HB8.out.trans (hb10.mono HB8.out.size));have HS10 := zI (HS8.out.below hb10);have HFR := zI (Jq0 (HD8.out.below hb10) HLY.out HS10.out HNE.out);clear hb9 hb10 hg6 hw10 hx10;go_wp2_with fail
           have e10 : w9.alloc (.cells #[.int .i64 (N : Int), .int .i64 2, .int .i64 18, .int .i64 (B : Int), .int .i64 (C : Int), .int .i64 (D : Int), .int .i64 (R : Int)] 38) = w10 := HW10.out.symm;rw [e10, <- HG6.out];clear e10;refine HFR.out.mono ?_;rintro e w11 ⟨rfl, hb11⟩;have HS11 := zI (HS10.out.below hb11);have HB11 := zI (HB10.out.trans (hb11.mono HB10.out.size));have y6 := (HX10.out.below hb11).at_ 6 (v := .int .i64 (R : Int)) rfl;have HRQ := zI (show ∀ q, Calls Tryz.prog 13 #[.pointer (some ⟨gs, 0, none⟩)] (w11.drewN q) fun e w' => e = .returned (.int .i64 (r : Int)) /\ w' = w11.drewN q from fun q => (Jb9 _ (HS11.out.below (below_drewN (Below.refl _ _) q))).mono (fun _ _ ⟨h1, h2⟩ => ⟨h1, h2.symm⟩));clear hb11;go_upto_region 25 with fail
           go_quiet ((go_at_call 13; exact Calls.quiet_of_same (HRQ.out _)))
           have HA := zI (HAL.out (w11.drewN nq) (below_drewN HB11.out nq));go_wp2_with fail
           refine HA.out.mono ?_;rintro e wz ⟨rfl, _, hbz⟩;have HBB := zI hbz;clear hbz;go_wp2_with fail
           go_ret;exact ⟨rfl, HBB.out⟩
end Go.Proofs.YtalkkhafcfhglaaGreatDoor
namespace Go.Proofs.YtalkkhafcfhglaaGreatDoor.storeRefuses
open Go.ChangeShapes Go.WideShapes Go.ChangeAt
theorem k1 : (Rows.storeRefusesRow.wf (OpenSpec.ofChange (OpenSpec.ofChange Rows.storeRefusesSpec).bare)) = true := by kernel_rfl
theorem k2 : (laidOutB Tryz.pinned.checked.prog) = true := by kernel_rfl
theorem k3 : (mapsRowed Tryz.pinned.checked.prog) = true := by kernel_rfl
theorem k4 : (Tryz.f3.params.all (Tryz.pinned.checked.prog.readableRec ·)) = true := by kernel_rfl
theorem k5 : (namedTie Tryz.pinned.checked.prog Rows.storeRefusesRow.named (OpenSpec.ofChange Rows.storeRefusesSpec).bare.vars) = true := by kernel_rfl
theorem k6 : (Rows.storeRefusesRow.stops == []) = true := by kernel_rfl
theorem k7 : (Tryz.pinned.checked.prog.stops == []) = true := by kernel_rfl
theorem k8 : (Rows.storeRefusesRow.knobs == []) = true := by kernel_rfl
theorem k9 : (Tryz.pinned.checked.prog.stopKnobs == []) = true := by kernel_rfl
theorem k10 : (Rows.storeRefusesRow.inPlace == Tryz.pinned.checked.prog.inPlace 3) = true := by kernel_rfl
theorem k11 : (Rows.storeRefusesRow.unfollowed == Tryz.pinned.checked.prog.unfollowed 3) = true := by kernel_rfl
theorem k12 : (Rows.storeRefusesRow.recurses == Tryz.pinned.checked.prog.recurses 3) = true := by kernel_rfl
theorem k13 : (Rows.storeRefusesRow.named == Tryz.pinned.checked.prog.varsNamed 3) = true := by kernel_rfl
theorem k14 : (Rows.storeRefusesRow.maps == (Tryz.f3.params.toList ++ (OpenSpec.ofChange Rows.storeRefusesSpec).bare.plain.varTypes Tryz.pinned.checked.prog).any (Tryz.pinned.checked.prog.mapsRec ·)) = true := by kernel_rfl
theorem k15 : (Rows.storeRefusesRow.ifaces == (Tryz.f3.params.toList ++ (OpenSpec.ofChange Rows.storeRefusesSpec).bare.plain.varTypes Tryz.pinned.checked.prog).any (Tryz.pinned.checked.prog.ifacesRec ·)) = true := by kernel_rfl
theorem k16 : (Rows.storeRefusesRow.mapsOut == Tryz.pinned.checked.prog.mapsAmong Tryz.f3.resultTypes.toList) = true := by kernel_rfl
theorem k17 : (Rows.storeRefusesRow.loops == (Tryz.f3.params.toList ++ (OpenSpec.ofChange Rows.storeRefusesSpec).bare.plain.varTypes Tryz.pinned.checked.prog).any (Tryz.pinned.checked.prog.loopsFrom ·)) = true := by kernel_rfl
theorem k18 : (Rows.storeRefusesRow.wideKeys == (Tryz.f3.params.toList ++ (OpenSpec.ofChange Rows.storeRefusesSpec).bare.plain.varTypes Tryz.pinned.checked.prog ++ Tryz.f3.resultTypes.toList).any (Tryz.pinned.checked.prog.wideKeysFrom ·)) = true := by kernel_rfl
theorem k19 : ((OpenSpec.ofChange Rows.storeRefusesSpec).bare.vars.all (Tryz.pinned.checked.prog.varReadable ·)) = true := by kernel_rfl
theorem k20 : (Tryz.f3.resultTypes.all (fun t => Tryz.pinned.checked.prog.readableRec t && decide (t < Tryz.pinned.checked.prog.types.size))) = true := by kernel_rfl
theorem k21 : (Rows.storeRefusesRow.ifacesOut == Tryz.f3.resultTypes.toList.any (Tryz.pinned.checked.prog.ifacesRec ·)) = true := by kernel_rfl
theorem k22 : (Rows.storeRefusesRow.loopsOut == Tryz.f3.resultTypes.toList.any (Tryz.pinned.checked.prog.loopsFrom ·)) = true := by kernel_rfl
theorem k23 : (Rows.storeRefusesRow.plainKeys == Tryz.pinned.checked.prog.plainKeys) = true := by kernel_rfl
theorem k24 : (Rows.storeRefusesRow.shortTexts.isNone) = true := by kernel_rfl
theorem k25 : (Tryz.pinned.checked.prog.stopsHeard) = true := by kernel_rfl
theorem k26 : (Tryz.pinned.checked.prog.mayEnter) = true := by kernel_rfl
theorem k27 : (Rows.storeRefusesRow.lifted == Tryz.pinned.checked.prog.liftsFinal) = true := by kernel_rfl
theorem k28 : (Tryz.pinned.checked.prog.make == some Rows.storeRefusesRow.make) = true := by kernel_rfl
theorem k29 : (Rows.storeRefusesRow.kinds == (if Rows.storeRefusesRow.domain.isEmpty then [] else Tryz.f3.params.toList.map fun t => match Tryz.pinned.checked.prog.underlying t with | some (.int k) => some k | _ => none)) = true := by kernel_rfl
theorem k30 : (Rows.storeRefusesRow.pinned == Rows.storeRefusesRow.pinnedBy) = true := by kernel_rfl
theorem k31 : (Rows.storeRefusesRow.veiled == (Tryz.f3.params.toList ++ (OpenSpec.ofChange Rows.storeRefusesSpec).bare.plain.varTypes Tryz.pinned.checked.prog ++ Tryz.f3.resultTypes.toList).any (Tryz.pinned.checked.prog.veiledRec ·)) = true := by kernel_rfl
theorem k32 : (Rows.storeRefusesRow.veiledFits Tryz.pinned.checked.prog Tryz.f3.params.toList (Tryz.f3.params.toList ++ (OpenSpec.ofChange Rows.storeRefusesSpec).bare.plain.varTypes Tryz.pinned.checked.prog ++ Tryz.f3.resultTypes.toList)) = true := by kernel_rfl
theorem bAnd {a b : Bool} (h : a = true) (k : b = true) : (a && b) = true := by rw [h, k]; rfl
end Go.Proofs.YtalkkhafcfhglaaGreatDoor.storeRefuses
namespace Go.Proofs.YtalkkhafcfhglaaGreatDoor.storeRefuses
theorem closed : joinedFacts Tryz.pinned.checked.prog 3 Tryz.f3 (OpenSpec.ofChange Rows.storeRefusesSpec).bare Rows.storeRefusesRow = true := by
 unfold joinedFacts;exact bAnd (bAnd (bAnd (bAnd (bAnd (bAnd (bAnd (bAnd (bAnd (bAnd (bAnd (bAnd (bAnd (bAnd (bAnd (bAnd (bAnd (bAnd (bAnd (bAnd (bAnd (bAnd (bAnd (bAnd (bAnd (bAnd (bAnd (bAnd (bAnd (bAnd (bAnd k1 k2) k3) k4) k5) k6) k7) k8) k9) k10) k11) k12) k13) k14) k15) k16) k17) k18) k19) k20) k21) k22) k23) k24) k25) k26) k27) k28) k29) k30) k31) k32
end Go.Proofs.YtalkkhafcfhglaaGreatDoor.storeRefuses
