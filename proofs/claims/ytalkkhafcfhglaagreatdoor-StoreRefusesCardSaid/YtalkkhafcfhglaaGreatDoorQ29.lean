/-
  Several texts in one: Sup, Supp, Supg, Supw, Dks, Stob.
-/
import Derived.Test.YtalkkhafcfhglaaGreatDoorQ28
set_option maxRecDepth 100000
set_option maxHeartbeats 4000000
namespace Go.Proofs.YtalkkhafcfhglaaGreatDoor
open Go.RowKit Go.Maps
theorem Jh2 (N : Nat) (w : World) (h1 : 64 <= N) (h2 : N <= 4096) :
  Calls Tryz.prog 12 #[.int .i64 (N : Int)] w fun e w' => e = .returned (.tuple #[.agg #[.int .i64 (N : Int), .int .i64 2, .int .i64 18, .int .i64 (28 + N / 200 : Nat), .int .i64 (N / 200 + 10 : Nat), .int .i64 (38 + 2 * (N / 200) : Nat), .int .i64 ((N - (38 + 2 * (N / 200))) / 2 : Nat)], .int .i64 0]) /\ Below w.heap.size w w' := by
 have d1 : decide ((N : Int) < 64) = false := decide_eq_false (by omega);have d2 : decide ((4096 : Int) < (N : Int)) = false := decide_eq_false (by omega);go_enter Tryz.func12, Tryz.ntmps12;go_wp2_with fail
 have hr : (((N : Int) - (18 + ((N : Int) / 200 + 10) + ((N : Int) / 200 + 10))) / 2) = (((N - (38 + 2 * (N / 200))) / 2 : Nat) : Int) := by omega
 have hc : (18 + ((N : Int) / 200 + 10)) = ((28 + N / 200 : Nat) : Int) := by omega
 have hd : (18 + ((N : Int) / 200 + 10) + ((N : Int) / 200 + 10)) = ((38 + 2 * (N / 200) : Nat) : Int) := by omega
 have he : ((N : Int) / 200 + 10) = ((N / 200 + 10 : Nat) : Int) := by omega
 rw [hr, hd, hc, he];generalize ((N - (38 + 2 * (N / 200))) / 2 : Nat) = R;generalize (38 + 2 * (N / 200) : Nat) = D;generalize (28 + N / 200 : Nat) = CB;generalize (N / 200 + 10 : Nat) = CT;exact bodyPost_ret (v := .tuple #[.agg #[.int .i64 (N : Int), .int .i64 2, .int .i64 18, .int .i64 (CB : Int), .int .i64 (CT : Int), .int .i64 (D : Int), .int .i64 (R : Int)], .int .i64 0]) (by simp [results, Tryz.results12, go_sem]) rfl ⟨rfl, ((Below.refl _ _).alloc (Nat.le_refl _) _).alloc (by simp) _⟩
def suM : List UInt8 := [83, 69, 68, 73, 77, 69, 78, 84]
def Ja3 (gen blocks n : Nat) : List UInt8 := le 8 gen ++ (le 8 (u64 blocks) ++ le 8 (u64 n)) ++ zeros 220
def suB (gen blocks n : Nat) : List UInt8 := (suM ++ Ja3 gen blocks n) ++ crcB (suM ++ Ja3 gen blocks n)
theorem Jxk (gen blocks n : Nat) : (suB gen blocks n).length = 256 := by simp [suB, suM, Ja3]
theorem Jxl (gen blocks n : Nat) (w : World) (hg : 1 <= gen) (hg2 : gen < 18446744073709551616) (h1 : 64 <= blocks) (h2 : blocks <= 4096) (hn : n <= 40000) :
  Calls Tryz.prog 128 #[.agg #[.int .u64 (gen : Int), .int .i64 (blocks : Int), .int .i64 (n : Int)]] w fun e w' => e = .returned (.tuple #[.string (strOf (suB gen blocks n)), .int .i64 0]) /\ Below w.heap.size w w' := by
 have hba := (Below.refl w.heap.size w).alloc (Nat.le_refl _) (.cells #[.int .u64 (gen : Int), .int .i64 (blocks : Int), .int .i64 (n : Int)] 83);have hbx := Bx.new w 83 #[.int .u64 (gen : Int), .int .i64 (blocks : Int), .int .i64 (n : Int)];have HBX := zI hbx;have HBA := zI hba;have HPL := zI (fun W => Jh2 blocks W h1 h2);have d1 : ((gen : Int) == 0) = false := by rw [beq_eq_false_iff_ne]; omega
 have d2 : decide ((n : Int) < 0) = false := decide_eq_false (by omega);have d3 : decide ((40000 : Int) < (n : Int)) = false := decide_eq_false (by omega);clear hba hbx;go_enter Tryz.func128, Tryz.ntmps128;go_wp2_with fail
 refine (HPL.out _).mono ?_;rintro e w2 ⟨rfl, hb2⟩;have HX2 := HBX.out.below hb2;have hlt := HX2.lt;have s0 := HX2.at_ 0 (v := .int .u64 (gen : Int)) rfl;have s1 := HX2.at_ 1 (v := .int .i64 (blocks : Int)) rfl;have s2 := HX2.at_ 2 (v := .int .i64 (n : Int)) rfl;go_upto_region 4 with fail
 have hb3 := (Below.refl w2.heap.size w2).alloc (Nat.le_refl _) (.cells #[.int .i64 (blocks : Int), .int .i64 2, .int .i64 18, .int .i64 (28 + (blocks : Int) / 200), .int .i64 ((blocks : Int) / 200 + 10), .int .i64 (38 + 2 * ((blocks : Int) / 200)), .int .i64 (((blocks - (38 + 2 * (blocks / 200)) : Nat) : Int) / 2)] 38);obtain ⟨w3, hw3⟩ : ∃ w3, w3 = w2.alloc (.cells #[.int .i64 (blocks : Int), .int .i64 2, .int .i64 18, .int .i64 (28 + (blocks : Int) / 200), .int .i64 ((blocks : Int) / 200 + 10), .int .i64 (38 + 2 * ((blocks : Int) / 200)), .int .i64 (((blocks - (38 + 2 * (blocks / 200)) : Nat) : Int) / 2)] 38) := ⟨_, rfl⟩;rw [<- hw3] at hb3 ⊢;have HX3 := zI (HX2.below hb3);have HB3 := zI (HBA.out.trans ((hb2.trans (hb3.mono hb2.size)).mono HBA.out.size));clear hw3 hb3 hb2 HX2 s0 s1 s2 hlt;have P0 := PkAt.new w3 w3.heap.size (Nat.le_refl _);have hb4 := (Below.refl w3.heap.size w3).alloc (Nat.le_refl _) (.cells #[.int .i64 0, .slice none 0 0] 307);obtain ⟨w4, hw4⟩ : ∃ w4, w4 = w3.alloc (.cells #[.int .i64 0, .slice none 0 0] 307) := ⟨_, rfl⟩;have HW4 := zI hw4;have hs4 : w4.heap.size = w3.heap.size + 1 := by rw [hw4]; simp
 rw [<- hw4] at P0 hb4;have HX4 := zI (HX3.out.below hb4);have s0 := HX4.out.at_ 0 (v := .int .u64 (gen : Int)) rfl;have hb5 := (Below.refl w4.heap.size w4).alloc (Nat.le_refl _) (.cells #[.int .u64 (gen : Int)] 43);have HWD := zI (Jhb w3.heap.size w3.heap.size (some ⟨w4.heap.size, 0, none⟩) 1 1 [gen] [] _ (P0.below hb5) (Jgm.new _ (by decide) (by omega)) (Sl.new w4 43 w4.heap.size [.int .u64 (gen : Int)] #[.int .u64 (gen : Int)] rfl rfl) rfl (by simp) (Nat.le_trans hb4.size hb5.size));have HB5 := zI (HB3.out.trans ((hb4.trans (hb5.mono hb4.size)).mono HB3.out.size));have HX5 := zI (HX4.out.below hb5);clear hw4 P0 hb4 hb5;go_upto_region 5 with fail
 rw [<- HW4.out];go_wp2_with fail
 rw [<- hs4];refine HWD.out.mono ?_;rintro e w6 ⟨rfl, hP6, hst6⟩;have hlt3 : w.heap.size < w3.heap.size := HX3.out.lt;have hB6 := hst6.below (B' := w3.heap.size) (Nat.le_refl _) (Nat.le_refl _) (by simp; omega);have HX6 := zI (show Bx w6 w.heap.size 83 #[.int .u64 (gen : Int), .int .i64 (blocks : Int), .int .i64 (n : Int)] from ⟨(hB6.block _ hlt3).trans HX5.out.blk⟩);have HB6 := zI (HB5.out.trans (hB6.mono (Nat.le_of_lt hlt3)));have hs6 := hB6.size;have s1 := HX6.out.at_ 1 (v := .int .i64 (blocks : Int)) rfl;have s2 := HX6.out.at_ 2 (v := .int .i64 (n : Int)) rfl;have hg6 : w3.heap.size < w6.heap.size := hP6.lt;have hb7 := (Below.refl w6.heap.size w6).alloc (Nat.le_refl _) (.cells #[.int .i64 (blocks : Int), .int .i64 (n : Int)] 3);have HFL := zI (show ([] : List UInt8) ++ [gen].flatMap (le 8) = le 8 gen from by simp);rw [HFL.out] at hP6;have HIN := zI (Jm0 w3.heap.size w3.heap.size (some ⟨w6.heap.size, 0, none⟩) 2 2 [(blocks : Int), (n : Int)] (le 8 gen) _ (hP6.below hb7) (Jgm.new _ (by decide) hg6) (Sl.new w6 3 w6.heap.size [.int .i64 (blocks : Int), .int .i64 (n : Int)] #[.int .i64 (blocks : Int), .int .i64 (n : Int)] rfl rfl) rfl (by simp) (Nat.le_trans (Nat.le_of_lt hg6) hb7.size));have HB7 := zI (HB6.out.trans (hb7.mono HB6.out.size));clear hP6 hst6 hB6 hb7 s0;go_wp2_with fail
 refine HIN.out.mono ?_;rintro e w8 ⟨rfl, hP8, hst8⟩;have HFL2 := zI (show le 8 gen ++ ([(blocks : Int), (n : Int)].flatMap fun v => le 8 (u64 v)) = le 8 gen ++ (le 8 (u64 blocks) ++ le 8 (u64 n)) from by simp);rw [HFL2.out] at hP8;have hB8 := hst8.below (B' := w3.heap.size) (Nat.le_refl _) (Nat.le_refl _) (by simp; omega);have HB8 := zI (HB7.out.trans (hB8.mono (Nat.le_of_lt hlt3)));have HFI := zI (Jsb w3.heap.size w3.heap.size 244 _ w8 hP8 (by simp) (by omega) (Nat.le_of_lt hP8.lt));have hl8 : w3.heap.size <= w8.heap.size := Nat.le_of_lt hP8.lt;clear hP8 hst8 hB8;go_wp2_with fail
 refine HFI.out.mono ?_;rintro e w9 ⟨rfl, hP9, hst9⟩;have hB9 := hst9.below (B' := w3.heap.size) (Nat.le_refl _) (Nat.le_refl _) hl8;have HB9 := zI (HB8.out.trans (hB9.mono (Nat.le_of_lt hlt3)));have HDO := zI (Jm1 _ _ _ w9 hP9);have HBO := zI (show le 8 gen ++ (le 8 (u64 blocks) ++ le 8 (u64 n)) ++ zeros (244 - (le 8 gen ++ (le 8 (u64 blocks) ++ le 8 (u64 n))).length) = Ja3 gen blocks n from by simp [Ja3]);rw [HBO.out] at HDO;clear hP9 hst9 hB9;go_wp2_with fail
 refine HDO.out.mono ?_;rintro e wa ⟨rfl, hw⟩;subst hw;have HCL := zI (Jt7 (suM ++ Ja3 gen blocks n) w9 (by simp [suM, Ja3]));have hsz : (strOf (Ja3 gen blocks n)).size = 244 := by rw [Jac]; simp [Ja3]
 have HAP := zI (show (⟨#[83, 69, 68, 73, 77, 69, 78, 84]⟩ : ByteArray) ++ strOf (Ja3 gen blocks n) = strOf (suM ++ Ja3 gen blocks n) from by apply Jbi; simp [strOf, suM]);go_wp2_with fail
 rw [HAP.out];refine HCL.out.mono ?_;rintro e wb ⟨rfl, hbb⟩;go_wp2_with fail
 go_ret2;exact ⟨rfl, HB9.out.trans (hbb.mono HB9.out.size)⟩
theorem Jhh (m n : Nat) : zeros m ++ zeros n = zeros (m + n) := by unfold zeros; rw [List.replicate_append_replicate]
theorem J5r : Jbg 4294967295 (zeros 63) = 870118205 := by decide +kernel
theorem J5s : Jbg 870118205 (zeros 63) = 3892639057 := by decide +kernel
theorem J5t : Jbg 3892639057 (zeros 63) = 3781187155 := by decide +kernel
theorem J5u : Jbg 3781187155 (zeros 63) = 379417283 := by decide +kernel
theorem Jgo (x : Int) (a b : List UInt8) : Jbg x (a ++ b) = Jbg (Jbg x a) b := by simp [Jbg]
theorem crcz : Jew (zeros 252) = 3915550012 := by
 have e : zeros 252 = zeros 63 ++ (zeros 63 ++ (zeros 63 ++ zeros 63)) := by rw [Jhh, Jhh, Jhh]
 have e0 : bits BinOp.xor IntKind.u32 0 4294967295 = 4294967295 := by decide +kernel
 unfold Jew;rw [e, Jgo, Jgo, Jgo, e0, J5r, J5s, J5t, J5u];decide +kernel
theorem Jxm : zeros 4 ≠ crcB (zeros 252) := by
 unfold crcB;rw [crcz];decide +kernel
theorem Jsh (w : World) :
  Calls Tryz.prog 63 #[.string (strOf (zeros 256))] w fun e w' => e = .returned (.tuple #[.agg #[.int .u64 0, .int .i64 0, .int .i64 0], .int .i64 7]) /\ Below w.heap.size w w' := by
 have hba := (Below.refl w.heap.size w).alloc (Nat.le_refl _) (.cells #[.int .u64 0, .int .i64 0, .int .i64 0] 83);have hbx := Bx.new w 83 #[.int .u64 0, .int .i64 0, .int .i64 0];obtain ⟨w1, hw1⟩ : ∃ w1, w1 = w.alloc (.cells #[.int .u64 0, .int .i64 0, .int .i64 0] 83) := ⟨_, rfl⟩;rw [<- hw1] at hba hbx;have HW1 := zI hw1;have HBX := zI hbx;have HBA := zI hba;clear hw1 hba hbx;have HO := zI (Jo7 (zeros 252) (zeros 4) w1 rfl (by simp));rw [Jhh, show Jxf (zeros 252) (zeros 4) = .tuple #[.string ByteArray.empty, .int .i64 7] from if_neg Jxm] at HO;have hsz : (strOf (zeros (252 + 4))).size = 256 := by rw [Jac, Jdj]
 have HZ := zI (show strOf (zeros 256) = strOf (zeros (252 + 4)) from rfl);rw [HZ.out];clear HZ;generalize strOf (zeros (252 + 4)) = S at *;go_enter Tryz.func63, Tryz.ntmps63;go_upto_region 1 with fail
 rw [<- HW1.out];go_wp2_with fail
 refine HO.out.mono ?_;rintro e w2 ⟨rfl, hb⟩;have HX2 := zI (HBX.out.below hb);have HB2 := zI (HBA.out.trans (hb.mono HBA.out.size));clear hb;have r0 := HX2.out.at_ 0 rfl;have r1 := HX2.out.at_ 1 rfl;have r2 := HX2.out.at_ 2 rfl;have f0 := HX2.out.free 0;have f1 := HX2.out.free 1;have f2 := HX2.out.free 2;go_wp2_with fail
 obtain ⟨w9, hw9⟩ : ∃ w9, w9 = putC w2 w.heap.size 0 [.int .u64 0, .int .i64 0, .int .i64 0] := ⟨_, rfl⟩;have hx9 := Jbv HX2.out [.int .u64 0, .int .i64 0, .int .i64 0] rfl;have hb9 := Jar (B := w.heap.size) [.int .u64 0, .int .i64 0, .int .i64 0] (Nat.le_refl _) w2 0;rw [<- hw9] at hx9 hb9;simp only [putC, Nat.zero_add, Nat.reduceAdd] at hw9;rw [<- hw9];have q0 := hx9.at_ 0 rfl;have q1 := hx9.at_ 1 rfl;have q2 := hx9.at_ 2 rfl;exact bodyPost_ret (v := .tuple #[.agg #[.int .u64 0, .int .i64 0, .int .i64 0], .int .i64 7]) (by simp [results, Tryz.results63, go_sem, q0, q1, q2]) rfl ⟨rfl, HB2.out.trans hb9⟩
theorem J33 (gen blocks n : Nat) (w : World) (hg : 1 <= gen) (hg2 : gen < 18446744073709551616) (h1 : 64 <= blocks) (h2 : blocks <= 4096) (hn : n <= 40000) :
  Calls Tryz.prog 63 #[.string (strOf (suB gen blocks n))] w fun e w' => e = .returned (.tuple #[.agg #[.int .u64 (gen : Int), .int .i64 (blocks : Int), .int .i64 (n : Int)], .int .i64 0]) /\ Below w.heap.size w w' := by
 have hba := (Below.refl w.heap.size w).alloc (Nat.le_refl _) (.cells #[.int .u64 0, .int .i64 0, .int .i64 0] 83);have hbx := Bx.new w 83 #[.int .u64 0, .int .i64 0, .int .i64 0];obtain ⟨w1, hw1⟩ : ∃ w1, w1 = w.alloc (.cells #[.int .u64 0, .int .i64 0, .int .i64 0] 83) := ⟨_, rfl⟩;rw [<- hw1] at hba hbx;have HW1 := zI hw1;have HBX := zI hbx;have HBA := zI hba;clear hw1 hba hbx;have HO := zI (Jo7 (suM ++ Ja3 gen blocks n) (crcB (suM ++ Ja3 gen blocks n)) w1 (by simp) (by simp [suM, Ja3]));rw [show Jxf (suM ++ Ja3 gen blocks n) (crcB (suM ++ Ja3 gen blocks n)) = .tuple #[.string (strOf (suM ++ Ja3 gen blocks n)), .int .i64 0] from if_pos rfl] at HO;have HP := zI (fun W => Jxl gen blocks n W hg hg2 h1 h2 hn);have HSU := zI (show (suM ++ Ja3 gen blocks n) ++ crcB (suM ++ Ja3 gen blocks n) = suB gen blocks n from rfl);rw [HSU.out] at HO;have hsz : (strOf (suB gen blocks n)).size = 256 := by rw [Jac, Jxk]
 have hx : (strOf (suM ++ Ja3 gen blocks n)).extract 8 252 = strOf (Ja3 gen blocks n) := by
  have := Jh1 suM (Ja3 gen blocks n);rw [show suM.length = 8 from rfl, show (Ja3 gen blocks n).length = 244 from by simp [Ja3]] at this;exact this
 have hsz2 : (strOf (suM ++ Ja3 gen blocks n)).size = 252 := by rw [Jac]; simp [suM, Ja3]
 have HF := zI (fun (W : World) (hb : Below w1.heap.size w1 W) => ReadW.from_ w1 hb (Ja3 gen blocks n) (by simp [Ja3]));have HBO := zI (show Ja3 gen blocks n = le 8 gen ++ (le 8 (u64 blocks) ++ (le 8 (u64 n) ++ zeros 220)) from by simp [Ja3]);have HG2 := zI hg2;generalize strOf (suM ++ Ja3 gen blocks n) = X at *;generalize strOf (suB gen blocks n) = S at *;clear hg2 HSU;go_enter Tryz.func63, Tryz.ntmps63;go_upto_region 1 with fail
 rw [<- HW1.out];go_wp2_with fail
 refine HO.out.mono ?_;rintro e w2 ⟨rfl, hb⟩;have HF2 := zI (HF.out _ hb);clear hb HF HO;go_wp2_with fail
 refine HF2.out.mono ?_;rintro e w3 ⟨g, rfl, hr⟩;rw [HBO.out] at hr;have HS := zI (ReadW.word gen _ hr HG2.out (by simp));clear hr;go_wp2_with fail
 refine HS.out.mono ?_;rintro e w4 ⟨rfl, hr⟩;have HS4 := zI (ReadW.int (blocks : Int) _ hr (by omega) (by simp));clear hr;go_wp2_with fail
 refine HS4.out.mono ?_;rintro e w5 ⟨rfl, hr⟩;have HS5 := zI (ReadW.int (n : Int) _ hr (by omega) (by simp));clear hr;go_wp2_with fail
 refine HS5.out.mono ?_;rintro e w6 ⟨rfl, hr⟩;have HX6 := zI (HBX.out.below hr.below);have HB6 := zI (HBA.out.trans (hr.below.mono HBA.out.size));have hba7 := (Below.refl w6.heap.size w6).alloc (Nat.le_refl _) (.cells #[.int .u64 (gen : Int), .int .i64 (blocks : Int), .int .i64 (n : Int)] 83);have HX7 := zI (HX6.out.below hba7);have HY7 := zI (Bx.new w6 83 #[.int .u64 (gen : Int), .int .i64 (blocks : Int), .int .i64 (n : Int)]);have HB7 := zI (HB6.out.trans (hba7.mono HB6.out.size));clear hr hba7;go_wp2_with fail
 refine (HP.out _).mono ?_;rintro e w8 ⟨rfl, hb8⟩;have HX8 := zI (HX7.out.below hb8);have HB8 := zI (HB7.out.trans (hb8.mono HB7.out.size));have hy8 := HY7.out.below hb8;have s0 := hy8.at_ 0 (v := .int .u64 (gen : Int)) rfl;have s1 := hy8.at_ 1 (v := .int .i64 (blocks : Int)) rfl;have s2 := hy8.at_ 2 (v := .int .i64 (n : Int)) rfl;have r0 := HX8.out.at_ 0 rfl;have r1 := HX8.out.at_ 1 rfl;have r2 := HX8.out.at_ 2 rfl;have f0 := HX8.out.free 0;have f1 := HX8.out.free 1;have f2 := HX8.out.free 2;clear hb8 hy8;go_wp2_with fail
 obtain ⟨w9, hw9⟩ : ∃ w9, w9 = putC w8 w.heap.size 0 [.int .u64 (gen : Int), .int .i64 (blocks : Int), .int .i64 (n : Int)] := ⟨_, rfl⟩;have hx9 := Jbv HX8.out [.int .u64 (gen : Int), .int .i64 (blocks : Int), .int .i64 (n : Int)] rfl;have hb9 := Jar (B := w.heap.size) [.int .u64 (gen : Int), .int .i64 (blocks : Int), .int .i64 (n : Int)] (Nat.le_refl _) w8 0;rw [<- hw9] at hx9 hb9;simp only [putC, Nat.zero_add, Nat.reduceAdd] at hw9;rw [<- hw9];have q0 := hx9.at_ 0 rfl;have q1 := hx9.at_ 1 rfl;have q2 := hx9.at_ 2 rfl;exact bodyPost_ret (v := .tuple #[.agg #[.int .u64 (gen : Int), .int .i64 (blocks : Int), .int .i64 (n : Int)], .int .i64 0]) (by simp [results, Tryz.results63, go_sem, q0, q1, q2]) rfl ⟨rfl, HB8.out.trans hb9⟩
theorem Jxn {w : World} {F : Nat -> Prop} {g N n : Nat} {f fl : Int -> Option ByteArray} {ws : List (Int × ByteArray)} (gen bytes : Nat) (h : DkAt w F g N n f fl ws) (hg : 1 <= gen) (hg2 : gen < 18446744073709551616) (h1 : 64 <= N) (h2 : N <= 4096) (hb : bytes <= 40000) (hn : n + ws.length + 2 <= 1000000) :
  Calls Tryz.prog 85 #[.pointer (some ⟨g, 0, none⟩), .agg #[.int .u64 (gen : Int), .int .i64 (N : Int), .int .i64 (bytes : Int)]] w fun e w' => e = .returned (.int .i64 0) /\
   DkW w F w' g N (n + ws.length + 2) (setS f ((gen % 2 : Nat) : Int) (strOf (suB gen N bytes))) (setS (Jhe fl ws) ((gen % 2 : Nat) : Int) (strOf (suB gen N bytes))) [] := by
 have hba := (Below.refl w.heap.size w).alloc (Nat.le_refl _) (.cells #[.int .u64 (gen : Int), .int .i64 (N : Int), .int .i64 (bytes : Int)] 83);have hbx := Bx.new w 83 #[.int .u64 (gen : Int), .int .i64 (N : Int), .int .i64 (bytes : Int)];obtain ⟨w1, hw1⟩ : ∃ w1, w1 = w.alloc (.cells #[.int .u64 (gen : Int), .int .i64 (N : Int), .int .i64 (bytes : Int)] 83) := ⟨_, rfl⟩;have HW1 := zI hw1;rw [<- hw1] at hba hbx;have HD1 := zI (DkW.start (h.below hba));have HBA := zI hba;have HIN := zI h.ins;have HP := zI (fun W => Jxl gen N bytes W hg hg2 h1 h2 hb);have HSZ := zI (show (strOf (suB gen N bytes)).size = 256 from by rw [Jac, Jxk]);generalize strOf (suB gen N bytes) = S at *;have HBX := zI hbx;have HWS := zI h.ws;clear hw1 hba hbx hg2 h;go_enter Tryz.func85, Tryz.ntmps85;go_upto_region 1 with fail
 rw [<- HW1.out];have s0 := HBX.out.at_ 0 (v := .int .u64 (gen : Int)) rfl;have s1 := HBX.out.at_ 1 (v := .int .i64 (N : Int)) rfl;have s2 := HBX.out.at_ 2 (v := .int .i64 (bytes : Int)) rfl;go_wp2_with fail
 refine (HP.out _).mono ?_;rintro e w2 ⟨rfl, hb2⟩;have HD2 := zI (HD1.out.below hb2);have HX2 := zI (HBX.out.below hb2);have HF2 := zI (HD2.out.flush (by omega));clear s0 s1 s2 hb2;go_wp2_with fail
 refine HF2.out.mono ?_;rintro e w3 ⟨rfl, hd⟩;have s0 := (HBX.out.chg hd.chg HIN.out.not).at_ 0 (v := .int .u64 (gen : Int)) rfl;have HWR := zI (hd.write (gen % 2) (by omega) S HSZ.out (by omega) (by simp));have HMD := zI (show ((gen : Int) % 2) = ((gen % 2 : Nat) : Int) from by omega);clear hd;go_wp2_with fail
 rw [HMD.out];refine HWR.out.mono ?_;rintro e w4 ⟨rfl, hd⟩;have HFL := zI (hd.flush (by simp; omega));clear hd;go_wp2_with fail
 refine HFL.out.mono ?_;rintro e w5 ⟨rfl, hd⟩;have HE := zI (hd.back HBA.out HIN.out);clear hd;go_wp2_with fail
 go_ret;refine ⟨rfl, ?_⟩;have := HE.out
 simpa [Jhe, Nat.add_assoc] using this
end Go.Proofs.YtalkkhafcfhglaaGreatDoor
namespace Go.Proofs.YtalkkhafcfhglaaGreatDoor
open Go.RowKit
def DsAt (w : World) (F : Nat -> Prop) (g N q : Nat) (f : Int -> Option ByteArray) : Prop := ∃ n fl ws, DkAt w F g N n f fl ws /\ n + ws.length <= q /\ Jhe fl ws = f
structure DsW (w0 : World) (F : Nat -> Prop) (w : World) (g N q : Nat) (f : Int -> Option ByteArray) : Prop where
 ex : ∃ n fl ws, DkW w0 F w g N n f fl ws /\ n + ws.length <= q /\ Jhe fl ws = f
section
variable {w0 w w' : World} {F G : Nat -> Prop} {g N q : Nat} {f : Int -> Option ByteArray}
theorem DsAt.ins (h : DsAt w F g N q f) : Ins F w := by obtain ⟨_, _, _, h, _⟩ := h; exact h.ins
theorem DsAt.chg (h : DsAt w F g N q f) (hc : Chg G w w') (hd : Dj F G) : DsAt w' F g N q f := by obtain ⟨n, fl, ws, h, b, c⟩ := h; exact ⟨n, fl, ws, h.chg hc hd, b, c⟩
theorem DsAt.below (h : DsAt w F g N q f) (hb : Below w.heap.size w w') : DsAt w' F g N q f := by obtain ⟨n, fl, ws, h, b, c⟩ := h; exact ⟨n, fl, ws, h.below hb, b, c⟩
theorem DsAt.read (h : DsAt w F g N q f) (k : Nat) (hk : k < N) :
  Calls Tryz.prog 62 #[.pointer (some ⟨g, 0, none⟩), .int .i64 (k : Int)] w fun e w' => e = .returned (.tuple #[.string (Ja5 f k), .int .i64 0]) /\ Below w.heap.size w w' := by obtain ⟨_, _, _, h, _⟩ := h; exact Jiq h k hk
theorem DsAt.blocks (h : DsAt w F g N q f) : Calls Tryz.prog 27 #[.pointer (some ⟨g, 0, none⟩)] w fun e w' => e = .returned (.int .i64 (N : Int)) /\ w = w' := by obtain ⟨_, _, _, h, _⟩ := h; exact Jli h
theorem DsW.start (h : DsAt w F g N q f) : DsW w F w g N q f := by obtain ⟨n, fl, ws, h, b, c⟩ := h; exact ⟨n, fl, ws, DkW.start h, b, c⟩
theorem DsW.at_ (h : DsW w0 F w g N q f) : DsAt w (grow F w0 w) g N q f := by obtain ⟨n, fl, ws, h, b, c⟩ := h.ex; exact ⟨n, fl, ws, h.at_, b, c⟩
theorem DsW.chg (h : DsW w0 F w g N q f) : Chg F w0 w := by obtain ⟨n, fl, ws, h, b, c⟩ := h.ex; exact h.chg
theorem DsW.below (h : DsW w0 F w g N q f) (hb : Below w.heap.size w w') : DsW w0 F w' g N q f := by obtain ⟨n, fl, ws, h, b, c⟩ := h.ex; exact ⟨n, fl, ws, h.below hb, b, c⟩
theorem DsW.write (h : DsW w0 F w g N q f) (k : Nat) (hk : k < N) (s : ByteArray) (hs : s.size = 256) (hq : q <= 900000) :
  Calls Tryz.prog 11 #[.pointer (some ⟨g, 0, none⟩), .int .i64 (k : Int), .string s] w fun e w' => e = .returned (.int .i64 0) /\ DsW w0 F w' g N (q + 2) (setS f k s) := by
 obtain ⟨n, fl, ws, h, b, c⟩ := h.ex;refine (h.write k hk s hs (by omega) (by omega)).mono ?_;rintro e w' ⟨rfl, h2⟩;exact ⟨rfl, n + 1, fl, _, h2, by rw [List.length_append]; simp only [List.length_cons, List.length_nil]; omega, by rw [Jlh, c]⟩
theorem DsW.flush (h : DsW w0 F w g N q f) (hq : q <= 900000) :
  Calls Tryz.prog 61 #[.pointer (some ⟨g, 0, none⟩)] w fun e w' => e = .returned (.int .i64 0) /\ DsW w0 F w' g N q f := by
 obtain ⟨n, fl, ws, h, b, c⟩ := h.ex;refine (h.flush (by omega)).mono ?_;rintro e w' ⟨rfl, h2⟩;exact ⟨rfl, _, _, [], h2, by simpa using b, c⟩
theorem DsAt.super (gen bytes : Nat) (h : DsAt w F g N q f) (hg : 1 <= gen) (hg2 : gen < 18446744073709551616) (h1 : 64 <= N) (h2 : N <= 4096) (hb : bytes <= 40000) (hq : q <= 900000) :
  Calls Tryz.prog 85 #[.pointer (some ⟨g, 0, none⟩), .agg #[.int .u64 (gen : Int), .int .i64 (N : Int), .int .i64 (bytes : Int)]] w fun e w' => e = .returned (.int .i64 0) /\
   DsW w F w' g N (q + 2) (setS f ((gen % 2 : Nat) : Int) (strOf (suB gen N bytes))) := by
 obtain ⟨n, fl, ws, h, b, c⟩ := h;refine (Jxn gen bytes h hg hg2 h1 h2 hb (by omega)).mono ?_;rintro e w' ⟨rfl, h3⟩;exact ⟨rfl, _, _, [], h3, by simp only [List.length_nil]; omega, by rw [c]; rfl⟩
theorem Jxo (N : Nat) (w : World) (h1 : 1 <= N) (h2 : N <= 4096) :
  Calls Tryz.prog 9 #[.int .i64 (N : Int)] w fun e w' => ∃ g, e = .returned (.pointer (some ⟨g, 0, none⟩)) /\ DsAt w' (made w w') g N 0 (fun _ => none) /\ Below w.heap.size w w' := by
 refine (J30 N w h1 h2).mono ?_;rintro e w' ⟨g, rfl, h, hb⟩;exact ⟨g, rfl, ⟨0, _, [], h, by simp, rfl⟩, hb⟩
end
def Jm6 (f : Int -> Option ByteArray) : Nat -> Int -> Option ByteArray
 | 0 => f
 | k + 1 => setS (Jm6 f k) (k : Int) (strOf (zeros 256))
theorem Jxp (f : Int -> Option ByteArray) (n k : Nat) (h : k < n) : Ja5 (Jm6 f n) (k : Int) = strOf (zeros 256) := by
 induction n with
 | zero => omega
 | succ n ih =>
   unfold Jm6 Ja5 setS;by_cases e : (k : Int) = (n : Int)
   · rw [if_pos e]; rfl
   · rw [if_neg e]; exact ih (by omega)
theorem J34 {F : Nat -> Prop} {g N C B D R gd gen id mp bk q : Nat} {lg : Option Addr} {bad : Int} {f : Int -> Option ByteArray} (w : World)
  (hX : Bx w g 48 (Jcv N C B D R ⟨gd, 0, none⟩ gen id mp bk lg bad)) (hg : ¬ F g) (hN : 18 <= N) (hD : DsAt w F gd N q f) (hq : q <= 800000) :
  Calls Tryz.prog 29 #[.pointer (some ⟨g, 0, none⟩)] w fun e w' => e = .returned (.int .i64 0) /\ DsW w F w' gd N (q + 36) (Jm6 f 18) := by
 have HX := zI hX;have HD := zI (DsW.start hD);have HRP := zI (Jm5 256 w (by omega));have HGL := zI hX.lt;clear hX hD;go_enter Tryz.func29, Tryz.ntmps29;go_wp2_with fail
 refine HRP.out.mono ?_;rintro e w1 ⟨rfl, hb1⟩;have HD1 := zI (HD.out.below hb1);have x1 := (HX.out.below hb1).at_ 1 (v := .int .i64 2) rfl;obtain ⟨Z, hZ⟩ : ∃ Z, Z = strOf (zeros 256) := ⟨_, rfl⟩;have HZ := zI hZ;have HZS := zI (show Z.size = 256 from by rw [hZ, Jac, Jdj]);rw [<- hZ];clear hb1 hZ;go_wp2_with fail
 clear x1;go_loopw [4, 13] (fun _ j wr => ∃ k : Nat, k <= 18 /\ j = .int .i64 (k : Int) /\ DsW w F wr gd N (q + 2 * k) (Jm6 f k)) (fun _ j _ => 18 - (intOf j).toNat)
 case atStart => exact ⟨0, by omega, rfl, HD1.out⟩
 case round =>
  obtain ⟨k, hk, rfl, hd⟩ := hrel;have hx := HX.out.chg hd.chg hg;have x7 := hx.at_ 7 (v := .pointer (some ⟨gd, 0, none⟩)) rfl;by_cases hlt : k < 18
  · have HW := zI (hd.write k (by omega) Z HZS.out (by omega))
    rw [HZ.out] at HW;have HE := zI (show Jm6 f (k + 1) = setS (Jm6 f k) (k : Int) (strOf (zeros 256)) from rfl);rw [<- HE.out, <- HZ.out, show q + 2 * k + 2 = q + 2 * (k + 1) from by omega] at HW;clear hd hx;go_wp2_with fail
    refine HW.out.mono ?_;rintro e w2 ⟨rfl, hd2⟩;have HD2 := zI hd2;clear hd2;go_wp2_with fail
    go_roundw
    case rel => exact ⟨k + 1, by omega, by go_num, HD2.out⟩
    case measure => simp [intOf]; omega
  · have hke : k = 18 := by omega
    subst hke;have HFL := zI (hd.flush (by omega));clear hd hx;go_wp2_with fail
    refine HFL.out.mono ?_;rintro e w2 ⟨rfl, hd2⟩;have HD2 := zI hd2;clear hd2;go_wp2_with fail
    go_ret;exact ⟨rfl, HD2.out⟩
abbrev layV (N C B D R : Nat) : Value := .agg #[.int .i64 (N : Int), .int .i64 2, .int .i64 18, .int .i64 (B : Int), .int .i64 (C : Int), .int .i64 (D : Int), .int .i64 (R : Int)]
abbrev J5a (N C B D R : Nat) : Array Value := #[.int .i64 (N : Int), .int .i64 2, .int .i64 18, .int .i64 (B : Int), .int .i64 (C : Int), .int .i64 (D : Int), .int .i64 (R : Int)]
structure BegS (w wx : World) (FB : Nat -> Prop) (g mp bk D N : Nat) (cs : Array Value) : Prop where
 box : Bx wx g 48 cs
 map : PMap wx mp 0 (fun _ _ => none)
 book : Led.BookAt wx FB bk (D : Int) ((N - D : Nat) : Int) [] []
 bel : Below w.heap.size w wx
 low : w.heap.size <= g /\ w.heap.size <= mp /\ (∀ x, FB x -> w.heap.size <= x)
 ne : ¬ FB g /\ ¬ FB mp
theorem J5b {w w0 w3 : World} {bk D N : Nat} {cs : Array Value} (hb0 : Below w.heap.size w w0) (hb3 : Below (w0.alloc (.map #[] 0)).drew.heap.size (w0.alloc (.map #[] 0)).drew w3) (hbk : Led.BookAt w3 (made (w0.alloc (.map #[] 0)).drew w3) bk (D : Int) ((N - D : Nat) : Int) [] []) :
  BegS w (w3.alloc (.cells cs 48)) (made (w0.alloc (.map #[] 0)).drew w3) w3.heap.size w0.heap.size bk D N cs /\ Below w0.heap.size w0 w3 /\ Below w0.heap.size w0 (w3.alloc (.cells cs 48)) := by
 have hz : (w0.alloc (.map #[] 0)).drew.heap.size = w0.heap.size + 1 := by simp
 have hs3 := hb3.size;have hs0 := hb0.size;have hm0 := ((Below.refl w0.heap.size w0).alloc (Nat.le_refl _) (.map #[] 0)).drew;have hbw3 : Below w0.heap.size w0 w3 := hm0.trans (hb3.mono (by omega));have hpm := ((PMap.made w0).below ((Below.refl (w0.alloc (.map #[] 0)).heap.size (w0.alloc (.map #[] 0))).drew)).below hb3;have hfin := (Below.refl w3.heap.size w3).alloc (Nat.le_refl _) (.cells cs 48);refine ⟨⟨Bx.new w3 _ _, hpm.below hfin, hbk.below hfin, (hb0.trans (hbw3.mono hs0)).trans (hfin.mono (by omega)), ⟨by omega, hs0, fun x hx => ?_⟩, fun hx => ?_, fun hx => ?_⟩, hbw3, hbw3.trans (hfin.mono (by omega))⟩
 · have := hx.1; omega
 · have := hx.2; omega
 · have := hx.1; omega
theorem J35 {w w0 w3 : World} {bk D N : Nat} {cs : Array Value} (hb0 : Below w.heap.size w w0) (hb3 : Below w0.drew.heap.size w0.drew w3) (hbk : Led.BookAt w3 (made w0.drew w3) bk (D : Int) ((N - D : Nat) : Int) [] []) :
  BegS w ((w3.alloc (.map #[] 0)).alloc (.cells cs 48)) (made w0.drew w3) (w3.heap.size + 1) w3.heap.size bk D N cs /\ Below w0.heap.size w0 w3 /\ Below w0.heap.size w0 (w3.alloc (.map #[] 0)) /\ Below w0.heap.size w0 ((w3.alloc (.map #[] 0)).alloc (.cells cs 48)) := by
 have hz : w0.drew.heap.size = w0.heap.size := rfl;have hs3 := hb3.size;have hs0 := hb0.size;have hbw3 : Below w0.heap.size w0 w3 := ((Below.refl w0.heap.size w0).drew).trans (hb3.mono (by omega));have hma := (Below.refl w3.heap.size w3).alloc (Nat.le_refl _) (.map #[] 0);have hzm : (w3.alloc (.map #[] 0)).heap.size = w3.heap.size + 1 := by simp
 have hfin := (Below.refl (w3.alloc (.map #[] 0)).heap.size (w3.alloc (.map #[] 0))).alloc (Nat.le_refl _) (.cells cs 48);have hbx := Bx.new (w3.alloc (.map #[] 0)) 48 cs;rw [hzm] at hbx;have hbm : Below w0.heap.size w0 (w3.alloc (.map #[] 0)) := hbw3.trans (hma.mono (by omega));have hbf := hbm.trans (hfin.mono (by omega));refine ⟨⟨hbx, (PMap.made w3).below hfin, (hbk.below hma).below hfin, hb0.trans (hbf.mono hs0), ⟨by omega, by omega, fun x hx => ?_⟩, fun hx => ?_, fun hx => ?_⟩, hbw3, hbm, hbf⟩
 · have := hx.1; omega
 · have := hx.2; omega
 · have := hx.2; omega
theorem Jsi (N C B D R gd : Nat) (w : World) (hL : Jex N C B D R) :
  Calls Tryz.prog 28 #[.pointer (some ⟨gd, 0, none⟩), layV N C B D R] w fun e w' => ∃ g mp bk FB, e = .returned (.pointer (some ⟨g, 0, none⟩)) /\ BegS w w' FB g mp bk D N (Jcv N C B D R ⟨gd, 0, none⟩ 0 0 mp bk none 0) := by
 have hDN : 38 <= D /\ D <= N /\ N <= 4096 := by have := hL.bd; have := hL.n; omega
 have hmm := @run_makeMap Tryz.prog;have hwr : IntKind.i64.wrap ((N : Int) - (D : Int)) = (N : Int) - (D : Int) := IntWalk.i64_in _ (by omega);have HSB := zI (show (N : Int) - (D : Int) = ((N - D : Nat) : Int) from by omega);obtain ⟨w0, hw0⟩ : ∃ w0, w0 = w.alloc (.cells (J5a N C B D R) 38) := ⟨_, rfl⟩;have hb0 : Below w.heap.size w w0 := by rw [hw0]; exact (Below.refl _ w).alloc (Nat.le_refl _) _
 have hx0 : Bx w0 w.heap.size 38 (J5a N C B D R) := by rw [hw0]; exact Bx.new w _ _
 have HW0 := zI hw0;have HB0 := zI hb0;have HX0 := zI hx0;have HBN := zI (fun W => Led.book_new (D : Int) ((N : Int) - (D : Int)) W (by omega) (by omega))
 have HKS := zI (fun (W : World) (hS : Below w0.heap.size w0 W) => (show W.cell? ⟨w.heap.size, 0, none⟩ = some (.int .i64 (N : Int)) /\ W.cell? ⟨w.heap.size, 1, none⟩ = some (.int .i64 2) /\ W.cell? ⟨w.heap.size, 2, none⟩ = some (.int .i64 18) /\ W.cell? ⟨w.heap.size, 3, none⟩ = some (.int .i64 (B : Int)) /\ W.cell? ⟨w.heap.size, 4, none⟩ = some (.int .i64 (C : Int)) /\ W.cell? ⟨w.heap.size, 5, none⟩ = some (.int .i64 (D : Int)) /\ W.cell? ⟨w.heap.size, 6, none⟩ = some (.int .i64 (R : Int)) from
  ⟨(HX0.out.below hS).at_ 0 rfl, (HX0.out.below hS).at_ 1 rfl, (HX0.out.below hS).at_ 2 rfl, (HX0.out.below hS).at_ 3 rfl, (HX0.out.below hS).at_ 4 rfl, (HX0.out.below hS).at_ 5 rfl, (HX0.out.below hS).at_ 6 rfl⟩))
 have hd0 := (Below.refl w0.heap.size w0).drew;have hm0 := ((Below.refl w0.heap.size w0).alloc (Nat.le_refl _) (.map #[] 0)).drew;have K0 := zI (HKS.out _ hd0);have K1 := zI (HKS.out _ hm0);have HD0 := zI hd0;have HM0 := zI hm0;clear hw0 hb0 hx0 hL hd0 hm0;go_enter Tryz.func28, Tryz.ntmps28;go_upto_region 1 with fail
 rw [<- HW0.out];go_cut [4] (fun s4 wx => ∃ g mp bk FB, s4 = .pointer (some ⟨g, 0, none⟩) /\ BegS w wx FB g mp bk D N (Jcv N C B D R ⟨gd, 0, none⟩ 0 0 mp bk none 0))
 case first =>
  go_region_held3 (fun w' => w'.cell? ⟨w.heap.size, 0, none⟩ = some (.int .i64 (N : Int)) /\ w'.cell? ⟨w.heap.size, 1, none⟩ = some (.int .i64 2) /\ w'.cell? ⟨w.heap.size, 2, none⟩ = some (.int .i64 18) /\ w'.cell? ⟨w.heap.size, 3, none⟩ = some (.int .i64 (B : Int)) /\ w'.cell? ⟨w.heap.size, 4, none⟩ = some (.int .i64 (C : Int)) /\ w'.cell? ⟨w.heap.size, 5, none⟩ = some (.int .i64 (D : Int)) /\ w'.cell? ⟨w.heap.size, 6, none⟩ = some (.int .i64 (R : Int)))
   (first
     | with_reducible exact K0.out
     | with_reducible exact K1.out
     | with_reducible exact K3.out
     | with_reducible exact K4.out
     | with_reducible exact K5.out)
   (first
     | (go_at_call 59
        refine (HBN.out _).mono ?_;rintro e w3 ⟨bk, rfl, hbk, hb3⟩;rw [HSB.out] at hbk
        first
        | (have hb3' : Below (w0.alloc (.map #[] 0)).drew.heap.size (w0.alloc (.map #[] 0)).drew w3 := by with_reducible exact hb3
           have HBM := zI (J5b (cs := #[.int .i64 (N : Int), .int .i64 2, .int .i64 18, .int .i64 (B : Int), .int .i64 (C : Int), .int .i64 (D : Int), .int .i64 (R : Int), .pointer (some ⟨gd, 0, none⟩), .int .u64 0, .int .u64 0, .map (some w0.heap.size), .pointer (some ⟨bk, 0, none⟩), .pointer none, .int .i64 0]) HB0.out hb3' hbk);have K3 := zI (HKS.out _ HBM.out.2.1);have K4 := zI (HKS.out _ HBM.out.2.2);clear hbk hb3 hb3')
        | (have hb3' : Below w0.drew.heap.size w0.drew w3 := by with_reducible exact hb3
           have HBM := zI (J35 (cs := #[.int .i64 (N : Int), .int .i64 2, .int .i64 18, .int .i64 (B : Int), .int .i64 (C : Int), .int .i64 (D : Int), .int .i64 (R : Int), .pointer (some ⟨gd, 0, none⟩), .int .u64 0, .int .u64 0, .map (some w3.heap.size), .pointer (some ⟨bk, 0, none⟩), .pointer none, .int .i64 0]) HB0.out hb3' hbk);have K3 := zI (HKS.out _ HBM.out.2.1);have K4 := zI (HKS.out _ HBM.out.2.2.1);have K5 := zI (HKS.out _ HBM.out.2.2.2);clear hbk hb3 hb3')))
  all_goals
   go_split_ands;go_wp2_with fail
   go_meet;exact ⟨_, _, bk, _, rfl, HBM.out.1⟩
 case rest =>
  obtain ⟨g, mp, bk, FB, rfl, hS⟩ := hcut;have HS := zI hS;clear hS;go_wp2_with fail
  go_ret;exact ⟨g, mp, bk, FB, rfl, HS.out⟩
end Go.Proofs.YtalkkhafcfhglaaGreatDoor
