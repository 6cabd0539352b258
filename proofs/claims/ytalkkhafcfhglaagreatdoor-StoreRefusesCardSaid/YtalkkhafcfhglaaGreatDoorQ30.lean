/-
  Several texts in one: Fmt, Aggp, Recv, Recp, Segp, NameLess.
-/
import Derived.Test.YtalkkhafcfhglaaGreatDoorQ28
set_option maxRecDepth 100000
set_option maxHeartbeats 4000000
namespace Go.Proofs.YtalkkhafcfhglaaGreatDoor
def Jxq (l : List UInt8) (n : Nat) : List UInt8 := l ++ zeros (n - l.length)
theorem Jxr {l : List UInt8} {n : Nat} (h : l.length <= n) : (Jxq l n).length = n := by simp [Jxq]; omega
def agB (a : Ag) : List UInt8 := le 8 (u64 a.c) ++ (le 8 (u64 a.hi) ++ (le 8 a.lo.toNat ++ (le 8 (u64 a.mn) ++ le 8 (u64 a.mx))))
@[simp] theorem Jxs (a : Ag) : (agB a).length = 40 := by simp [agB]
def rcB (r : Rc) : List UInt8 := nmB r.nm.toList ++ (le 8 (u64 r.st) ++ agB r.ag)
theorem Jm7 {r : Rc} (h : r.nm.toList.length <= 15) : (rcB r).length = 64 := by simp [rcB, Jh0 h]
theorem Jeo {l : List Rc} (h : ∀ r ∈ l, r.nm.toList.length <= 15) : (l.flatMap rcB).length = 64 * l.length := by
 induction l with
 | nil => rfl
 | cons r t ih =>
   rw [List.flatMap_cons, List.length_append, Jm7 (h r (by simp)), ih (fun x hx => h x (by simp [hx])), List.length_cons];omega
def sgM : List UInt8 := [83, 69, 71, 77]
def sgHd (id tier shard place of n : Nat) : List UInt8 := sgM ++ Jxq (le 8 id ++ (le 1 tier ++ (le 1 shard ++ (le 2 place ++ (le 2 of ++ le 2 n))))) 44
@[simp] theorem Jm8 (id tier shard place of n : Nat) : (sgHd id tier shard place of n).length = 48 := by
 unfold sgHd;rw [List.length_append, Jxr (by simp)];rfl
def sgBk (id tier shard place of : Nat) (l : List Rc) : List UInt8 := sgHd id tier shard place of l.length ++ (l.flatMap rcB ++ zeros (208 - (l.flatMap rcB).length))
theorem J08 {id tier shard place of : Nat} {l : List Rc} (h : ∀ r ∈ l, r.nm.toList.length <= 15) (hl : l.length <= 3) : (sgBk id tier shard place of l).length = 256 := by
 have := Jeo h;simp [sgBk, this];omega
open Go.RowKit
theorem J2c {a : Ag} (h : a.Ok) : ((a.lo.toNat : Nat) : Int) = a.lo := Int.toNat_of_nonneg h.lo.1
theorem J09 (a : Ag) (w : World) (hv : Jb3 a = true) (ho : a.Ok) :
  Calls Tryz.prog 282 #[a.val] w fun e w' => e = .returned (.tuple #[.string (strOf (agB a)), .int .i64 0]) /\ Below w.heap.size w w' := by
 have hba := (Below.refl w.heap.size w).alloc (Nat.le_refl _) (.cells #[.int .i64 a.c, .int .i64 a.hi, .int .u64 a.lo, .int .i64 a.mn, .int .i64 a.mx] 167);have hbx := Bx.new w 167 #[.int .i64 a.c, .int .i64 a.hi, .int .u64 a.lo, .int .i64 a.mn, .int .i64 a.mx];have HBX := zI hbx;have HBA := zI hba;have HV := zI (fun W => Jbj a W);have HT := zI hv;obtain ⟨lo, hlo⟩ : ∃ lo : Nat, lo = a.lo.toNat := ⟨_, rfl⟩;have HLO := zI (show a.lo = (lo : Int) from by rw [hlo, J2c ho]);have HLN := zI hlo;clear hba hbx hv ho hlo;go_enter Tryz.func282, Tryz.ntmps282;go_wp2_with fail
 refine (HV.out _).mono ?_;rintro e w2 ⟨rfl, hw2⟩;rw [HT.out];have hb2 := (Below.refl (w.alloc (.cells #[.int .i64 a.c, .int .i64 a.hi, .int .u64 a.lo, .int .i64 a.mn, .int .i64 a.mx] 167)).heap.size _).alloc (Nat.le_refl _) (.cells #[.int .i64 a.c, .int .i64 a.hi, .int .u64 a.lo, .int .i64 a.mn, .int .i64 a.mx] 167);rw [<- hw2] at hb2;have HX2 := zI (HBX.out.below hb2);have HB2 := zI (HBA.out.trans (hb2.mono HBA.out.size));clear hw2 hb2;have s0 := HX2.out.at_ 0 (v := .int .i64 a.c) rfl;have s1 := HX2.out.at_ 1 (v := .int .i64 a.hi) rfl;have hlt := HX2.out.lt;go_wp2_with fail
 refine (LayW.ints0 w2 [a.c, a.hi] 2 2 #[.int .i64 a.c, .int .i64 a.hi] rfl rfl (by omega)).mono ?_;rintro e w3 ⟨rfl, hl3⟩;have HL3 := zI hl3;have s2 := (hl3.bx HX2.out).at_ 2 (v := .int .u64 (lo : Int)) (by rw [<- HLO.out]; rfl);clear hl3 s0 s1 hlt;go_wp2_with fail
 refine (HL3.out.words [lo] 1 1 #[.int .u64 (lo : Int)] rfl rfl (by simp)).mono ?_;rintro e w4 ⟨rfl, hl4⟩;have HL4 := zI hl4;have s3 := (hl4.bx HX2.out).at_ 3 (v := .int .i64 a.mn) rfl;have s4 := (hl4.bx HX2.out).at_ 4 (v := .int .i64 a.mx) rfl;clear hl4 s2;go_wp2_with fail
 refine (HL4.out.ints [a.mn, a.mx] 2 2 #[.int .i64 a.mn, .int .i64 a.mx] rfl rfl (by simp)).mono ?_;rintro e w5 ⟨rfl, hl5⟩;have HL5 := zI hl5;clear hl5 s3 s4;go_wp2_with fail
 refine HL5.out.done.mono ?_;rintro e w6 ⟨rfl, hw⟩;subst hw;have HQ := zI (show [a.c, a.hi].flatMap (fun v => le 8 (u64 v)) ++ [lo].flatMap (le 8) ++ [a.mn, a.mx].flatMap (fun v => le 8 (u64 v)) = agB a from by rw [HLN.out]; simp [agB]);have HE := zI (HB2.out.trans (HL5.out.below.mono HB2.out.size));rw [HQ.out];go_wp2_with fail
 go_ret2;exact ⟨rfl, HE.out⟩
structure Rc.Fine (r : Rc) : Prop where
 ok : r.Ok
 nm : Jak r.nm.toList = true
 st : 0 <= r.st /\ r.st <= 1099511627776
 ag : Jb3 r.ag = true
theorem Jxt (t : Int) (w : World) (h : 0 <= t /\ t <= 1099511627776) : Calls Tryz.prog 253 #[.int .i64 t] w fun e w' => e = .returned (.bool true) /\ w = w' := by
 have h1 : decide (0 <= t) = true := decide_eq_true h.1;have h2 : decide (t <= 1099511627776) = true := decide_eq_true h.2;go_enter Tryz.func253, Tryz.ntmps253;go_wp2;go_ret;exact ⟨rfl, rfl⟩
theorem Jo8 (r : Rc) (w : World) (h : r.Fine) : Calls Tryz.prog 211 #[r.val] w fun e w' => e = .returned (.bool true) /\ Below w.heap.size w w' := by
 have HVA := zI (fun (W : World) (g : Nat) (hg : W.cell? ⟨g, 0, none⟩ = some (.string r.nm)) => Jb5 (some ⟨g, 0, none⟩) 1 1 [r.nm] W (by decide) rfl (by simpa using h.ok.nm) (fun _ => ⟨g, 0, rfl, one_cell hg⟩));rw [show ([r.nm].all fun s => Jak s.toList) = true from by simp [h.nm]] at HVA;have HT := zI (fun W => Jxt r.st W h.st);have HG := zI (fun W => Jbj r.ag W);rw [h.ag] at HG;clear h;go_enter Tryz.func211, Tryz.ntmps211;go_wp2_with fail
 refine (HVA.out _ _ (by simp [go_sem])).mono ?_;rintro e w1 ⟨rfl, hw⟩;subst hw;go_wp2_with fail
 refine (HT.out _).mono ?_;rintro e w2 ⟨rfl, hw⟩;subst hw;go_wp2_with fail
 refine (HG.out _).mono ?_;rintro e w3 ⟨rfl, hw⟩;subst hw;go_wp2_with fail
 go_ret;exact ⟨rfl, by repeat (first | exact Below.refl _ _ | refine Below.drew ?_ | refine Below.alloc ?_ (by simp; try omega) _)⟩
theorem Rc.Fine.size {r : Rc} (h : r.Fine) : r.nm.size <= 15 := by
 have := h.nm;unfold Jak at this;simp at this;have e := Jab r.nm;omega
theorem Jlj (r : Rc) (w : World) (h : r.Fine) : Calls Tryz.prog 252 #[r.val] w fun e w' => e = .returned (.tuple #[.string (strOf (rcB r)), .int .i64 0]) /\ Below w.heap.size w w' := by
 have hba := (Below.refl w.heap.size w).alloc (Nat.le_refl _) (.cells #[.string r.nm, .int .i64 r.st, .int .i64 r.ag.c, .int .i64 r.ag.hi, .int .u64 r.ag.lo, .int .i64 r.ag.mn, .int .i64 r.ag.mx] 169);have hbx := Bx.new w 169 #[.string r.nm, .int .i64 r.st, .int .i64 r.ag.c, .int .i64 r.ag.hi, .int .u64 r.ag.lo, .int .i64 r.ag.mn, .int .i64 r.ag.mx];have HBX := zI hbx;have HBA := zI hba;have HV := zI (fun W => Jo8 r W h);have HP := zI (fun W => J09 r.ag W h.ag h.ok.ag.ok);have HSZ := zI h.size;clear hba hbx h;go_enter Tryz.func252, Tryz.ntmps252;go_wp2_with fail
 refine (HV.out _).mono ?_;rintro e w2 ⟨rfl, hb2⟩;have HX2 := zI (HBX.out.below hb2);have HB2 := zI (HBA.out.trans (hb2.mono HBA.out.size));clear hb2;have s2 := HX2.out.at_ 2 (v := .int .i64 r.ag.c) rfl;have s3 := HX2.out.at_ 3 (v := .int .i64 r.ag.hi) rfl;have s4 := HX2.out.at_ 4 (v := .int .u64 r.ag.lo) rfl;have s5 := HX2.out.at_ 5 (v := .int .i64 r.ag.mn) rfl;have s6 := HX2.out.at_ 6 (v := .int .i64 r.ag.mx) rfl;go_wp2_with fail
 refine (HP.out _).mono ?_;rintro e w3 ⟨rfl, hb3⟩;have HX3 := zI (HX2.out.below hb3);have HB3 := zI (HB2.out.trans (hb3.mono HB2.out.size));clear hb3 s2 s3 s4 s5 s6;have s0 := HX3.out.at_ 0 (v := .string r.nm) rfl;have hlt := HX3.out.lt;go_wp2_with fail
 refine (LayW.names0 w3 [r.nm] (by simpa using HSZ.out) 1 1 #[.string r.nm] rfl rfl (by omega)).mono ?_;rintro e w4 ⟨rfl, hl4⟩;have HL4 := zI (show LayW w3 w4 w3.heap.size (nmB r.nm.toList) from by simpa using hl4);have s1 := (hl4.bx HX3.out).at_ 1 (v := .int .i64 r.st) rfl;clear hl4 s0 hlt;have HLE := zI (Jh0 (s := r.nm.toList) (by rw [Jab]; exact HSZ.out));go_wp2_with fail
 refine (HL4.out.ints [r.st] 1 1 #[.int .i64 r.st] rfl rfl (by simp [HLE.out])).mono ?_;rintro e w5 ⟨rfl, hl5⟩;have HL5 := zI (show LayW w3 w5 w3.heap.size (nmB r.nm.toList ++ le 8 (u64 r.st)) from by simpa using hl5);clear hl5 s1;have HD5 := zI HL5.out.done;go_wp2_with fail
 refine HD5.out.mono ?_;rintro e w6 ⟨rfl, hw⟩;subst hw;have HE := zI (HB3.out.trans (HL5.out.below.mono HB3.out.size));have HQ := zI (show strOf (nmB r.nm.toList ++ le 8 (u64 r.st)) ++ strOf (agB r.ag) = strOf (rcB r) from by apply Jbi; simp [strOf, rcB]);have hz1 : (strOf (nmB r.nm.toList ++ le 8 (u64 r.st))).size <= 100 := by rw [Jac, List.length_append, HLE.out, Jaz]; omega
 have hz2 : (strOf (agB r.ag)).size <= 100 := by rw [Jac, Jxs]; omega
 generalize strOf (nmB r.nm.toList ++ le 8 (u64 r.st)) = X at *;generalize strOf (agB r.ag) = Y at *;go_wp2_with fail
 rw [HQ.out];go_ret2;exact ⟨rfl, HE.out⟩
theorem Jd6 (a b : List UInt8) : strOf a ++ strOf b = strOf (a ++ b) := by apply Jbi; simp [strOf]
theorem Rc.Fine.len {r : Rc} (h : r.Fine) : r.nm.toList.length <= 15 := by rw [Jab]; exact h.size
theorem Jxu (A : Option Addr) (n c : Nat) (l : List Rc) (w : World) (h : Rcs w A n l) (hf : ∀ r ∈ l, r.Fine) (hn : n <= 10000) :
  Calls Tryz.prog 254 #[.slice A n c] w fun e w' => e = .returned (.tuple #[.string (strOf (l.flatMap rcB)), .int .i64 0]) /\ Below w.heap.size w w' := by
 have HL := zI h.len;have HP := zI (fun r W (hr : r ∈ l) => Jlj r W (hf r hr));have HR := zI h;have HF := zI hf;clear h hf;go_enter Tryz.func254, Tryz.ntmps254;go_wp2_with fail
 go_loopw [4, 11] (fun s i wr => ∃ k : Nat, k <= n /\ i = .int .i64 (k : Int) /\ s = .string (strOf ((l.take k).flatMap rcB)) /\ Below w.heap.size w wr) (fun _ i _ => n - (intOf i).toNat)
 case atStart => exact ⟨0, Nat.zero_le _, rfl, rfl, Below.refl _ _⟩
 case round =>
  obtain ⟨k, hk, rfl, rfl, hb⟩ := hrel;by_cases hlt : k < n
  · have K : k < l.length := by rw [HL.out]; exact hlt
    have HS := zI (show strOf ((l.take k).flatMap rcB) ++ strOf (rcB l[k]) = strOf ((l.take (k + 1)).flatMap rcB) from by
     rw [List.take_succ_eq_append_getElem K, List.flatMap_append, Jd6]; simp)
    have hz1 : (strOf ((l.take k).flatMap rcB)).size <= 1000000 := by
     rw [Jac, Jeo (fun r hr => (HF.out r (List.mem_of_mem_take hr)).len), List.length_take]; omega
    have hz2 : (strOf (rcB l[k])).size <= 1000 := by rw [Jac, Jm7 (HF.out _ (List.getElem_mem K)).len]; omega
    have HP1 := zI (fun W => HP.out l[k] W (List.getElem_mem K));obtain ⟨b, off, rfl, hbl, R⟩ := (HR.out.below hb).get K;obtain ⟨s2, hs2⟩ : ∃ s2, s2 = strOf ((l.take (k + 1)).flatMap rcB) := ⟨_, rfl⟩;rw [<- hs2] at HS;have HS2 := zI hs2;clear hs2;generalize strOf ((l.take k).flatMap rcB) = s1 at *;generalize l[k]'K = x at *;obtain ⟨r0, r1, r2, r3, r4, r5, r6⟩ := R;have hba := (Below.refl wr.heap.size wr).alloc (Nat.le_refl _) (.cells #[.string x.nm, .int .i64 x.st, .int .i64 x.ag.c, .int .i64 x.ag.hi, .int .u64 x.ag.lo, .int .i64 x.ag.mn, .int .i64 x.ag.mx] 169);have HB1 := zI (hb.trans (hba.mono hb.size));clear hba hb;go_wp2_with fail
    refine (HP1.out _).mono ?_;rintro e w2 ⟨rfl, hb2⟩;have HB2 := zI (HB1.out.trans (hb2.mono HB1.out.size));clear hb2 r0 r1 r2 r3 r4 r5 r6;go_wp2_with fail
    go_roundw
    case rel => exact ⟨k + 1, by omega, by go_num, by rw [HS.out, HS2.out], HB2.out⟩
    case measure => simp [intOf]; omega
  · have hke : n = k := by omega
    have HT := zI (show l.take k = l from List.take_of_length_le (by rw [HL.out]; omega));rw [HT.out];have HB := zI hb;clear hb hke HT;go_wp2_with fail
    go_ret2;exact ⟨rfl, HB.out⟩
theorem Jj1 (id tier shard : Nat) (w : World) (h0 : 1 <= id) (h1 : tier < 10) (h2 : shard < 8) : Calls Tryz.prog 208 #[.int .u64 (id : Int), .int .i64 (tier : Int), .int .i64 (shard : Int)] w fun e w' => e = .returned (.bool true) /\ w = w' := by
 have d0 : decide ((0 : Int) < (id : Int)) = true := decide_eq_true (by omega);have d1 : decide ((0 : Int) <= (tier : Int)) = true := decide_eq_true (by omega);have d2 : decide ((tier : Int) < 10) = true := decide_eq_true (by omega);have d3 : decide ((0 : Int) <= (shard : Int)) = true := decide_eq_true (by omega);have d4 : decide ((shard : Int) < 8) = true := decide_eq_true (by omega);have d5 : decide (0 < id) = true := decide_eq_true (by omega);go_enter Tryz.func208, Tryz.ntmps208;go_wp2;go_ret;exact ⟨rfl, rfl⟩
theorem Jxv : Jds 1 := by unfold Jds; simp
theorem Jsj : Jds 2 := by unfold Jds; simp
abbrev hdV (id tier shard place of n : Nat) : Value := .agg #[.int .u64 (id : Int), .int .i64 (tier : Int), .int .i64 (shard : Int), .int .i64 (place : Int), .int .i64 (of : Int), .int .i64 (n : Int)]
structure J1a (id tier shard place of n : Nat) : Prop where
 id : id < 18446744073709551616
 tier : tier < 256
 shard : shard < 256
 place : place < 65536
 of : of < 65536
 n : n < 65536
theorem Jlk (id tier shard place of n : Nat) (w : World) (h : J1a id tier shard place of n) :
  Calls Tryz.prog 209 #[hdV id tier shard place of n] w fun e w' => e = .returned (.string (strOf (sgHd id tier shard place of n))) /\ Below w.heap.size w w' := by
 have hba := (Below.refl w.heap.size w).alloc (Nat.le_refl _) (.cells #[.int .u64 (id : Int), .int .i64 (tier : Int), .int .i64 (shard : Int), .int .i64 (place : Int), .int .i64 (of : Int), .int .i64 (n : Int)] 242);have hbx := Bx.new w 242 #[.int .u64 (id : Int), .int .i64 (tier : Int), .int .i64 (shard : Int), .int .i64 (place : Int), .int .i64 (of : Int), .int .i64 (n : Int)];obtain ⟨w1, hw1⟩ : ∃ w1, w1 = w.alloc (.cells #[.int .u64 (id : Int), .int .i64 (tier : Int), .int .i64 (shard : Int), .int .i64 (place : Int), .int .i64 (of : Int), .int .i64 (n : Int)] 242) := ⟨_, rfl⟩;rw [<- hw1] at hba hbx;have HW1 := zI hw1;have HBX := zI hbx;have HBA := zI hba;have HH := zI h;have s0 := hbx.at_ 0 (v := .int .u64 (id : Int)) rfl;have hlt := hbx.lt;clear hw1 hba hbx h;go_enter Tryz.func209, Tryz.ntmps209;go_upto_region 1 with fail
 rw [<- HW1.out];go_wp2_with fail
 refine (LayW.words0 w1 [id] 1 1 #[.int .u64 (id : Int)] rfl rfl (by omega)).mono ?_;rintro e w3 ⟨rfl, hl⟩;have HL3 := zI hl;have s1 := (hl.bx HBX.out).at_ 1 (v := .int .i64 (tier : Int)) rfl;have s2 := (hl.bx HBX.out).at_ 2 (v := .int .i64 (shard : Int)) rfl;clear hl s0 hlt;go_wp2_with fail
 refine (HL3.out.small 1 Jxv [tier, shard] (by have := HH.out.tier; have := HH.out.shard; simp; omega) 2 2 #[.int .i64 (tier : Int), .int .i64 (shard : Int)] rfl rfl (by simp)).mono ?_;rintro e w4 ⟨rfl, hl⟩;have HL4 := zI hl;have s3 := (hl.bx HBX.out).at_ 3 (v := .int .i64 (place : Int)) rfl;have s4 := (hl.bx HBX.out).at_ 4 (v := .int .i64 (of : Int)) rfl;have s5 := (hl.bx HBX.out).at_ 5 (v := .int .i64 (n : Int)) rfl;clear hl s1 s2;go_wp2_with fail
 refine (HL4.out.small 2 Jsj [place, of, n] (by have := HH.out.place; have := HH.out.of; have := HH.out.n; simp; omega) 3 3 #[.int .i64 (place : Int), .int .i64 (of : Int), .int .i64 (n : Int)] rfl rfl (by simp)).mono ?_;rintro e w5 ⟨rfl, hl⟩;have HL5 := zI hl;clear hl s3 s4 s5;go_wp2_with fail
 refine (HL5.out.fill 44 (by simp) (by omega)).mono ?_;rintro e w6 ⟨rfl, hl⟩;have HL6 := zI hl;clear hl;go_wp2_with fail
 refine HL6.out.done.mono ?_;rintro e w7 ⟨rfl, hw⟩;subst hw;have HSZ : ∀ l : List UInt8, l.length <= 100 -> (strOf l).size <= 100 := fun l h => by rw [Jac]; exact h
 have hq : sgM ++ ([id].flatMap (le 8) ++ [tier, shard].flatMap (le 1) ++ [place, of, n].flatMap (le 2) ++ zeros (44 - ([id].flatMap (le 8) ++ [tier, shard].flatMap (le 1) ++ [place, of, n].flatMap (le 2)).length)) = sgHd id tier shard place of n := by simp [sgHd, Jxq]
 have hz := HSZ ([id].flatMap (le 8) ++ [tier, shard].flatMap (le 1) ++ [place, of, n].flatMap (le 2) ++ zeros (44 - ([id].flatMap (le 8) ++ [tier, shard].flatMap (le 1) ++ [place, of, n].flatMap (le 2)).length)) (by simp);generalize [id].flatMap (le 8) ++ [tier, shard].flatMap (le 1) ++ [place, of, n].flatMap (le 2) ++ zeros (44 - ([id].flatMap (le 8) ++ [tier, shard].flatMap (le 1) ++ [place, of, n].flatMap (le 2)).length) = X at *;have HAP := zI (show (⟨#[83, 69, 71, 77]⟩ : ByteArray) ++ strOf X = strOf (sgHd id tier shard place of n) from by rw [<- hq]; apply Jbi; simp [strOf, sgM]);have HE := zI (HBA.out.trans (HL6.out.below.mono HBA.out.size));clear hq HSZ;go_wp2_with fail
 rw [HAP.out];go_ret;exact ⟨rfl, HE.out⟩
theorem Jua (id tier shard place of n : Nat) (A : Option Addr) (c : Nat) (l : List Rc) (w : World) (h : J1a id tier shard place of n) (hr : Rcs w A n l) (hf : ∀ r ∈ l, r.Fine) (hn : n <= 3) :
  Calls Tryz.prog 213 #[hdV id tier shard place of n, .slice A n c] w fun e w' => e = .returned (.string (strOf (sgBk id tier shard place of l))) /\ Below w.heap.size w w' := by
 have hba := (Below.refl w.heap.size w).alloc (Nat.le_refl _) (.cells #[.int .u64 (id : Int), .int .i64 (tier : Int), .int .i64 (shard : Int), .int .i64 (place : Int), .int .i64 (of : Int), .int .i64 (n : Int)] 242);have hbx := Bx.new w 242 #[.int .u64 (id : Int), .int .i64 (tier : Int), .int .i64 (shard : Int), .int .i64 (place : Int), .int .i64 (of : Int), .int .i64 (n : Int)];have HBX := zI hbx;have HBA := zI hba;have HH := zI (fun W => Jlk id tier shard place of n W h);have HP := zI (Jxu A n c l _ (hr.below hba) hf (by omega));have HLN := zI (show l.length = n from hr.len);have HBL := zI (Jeo (l := l) fun r hr => (hf r hr).len);clear hba hbx h hr hf;go_enter Tryz.func213, Tryz.ntmps213;go_wp2_with fail
 refine HP.out.mono ?_;rintro e w2 ⟨rfl, hb2⟩;have HX2 := zI (HBX.out.below hb2);have HB2 := zI (HBA.out.trans (hb2.mono HBA.out.size));have hsz : (strOf (l.flatMap rcB)).size = 64 * n := by rw [Jac, HBL.out, HLN.out]
 have HSG := zI (show sgBk id tier shard place of l = sgHd id tier shard place of n ++ (l.flatMap rcB ++ zeros (208 - 64 * n)) from by unfold sgBk; rw [HBL.out, HLN.out]);have HSU := zI (show (208 : Int) - 64 * (n : Int) = ((208 - 64 * n : Nat) : Int) from by omega);generalize l.flatMap rcB = X at *;have HF := zI (LayW.fill0 w2 (208 - 64 * n) (by omega));have hle : (64 * n : Nat) <= 192 := by omega
 clear hb2;go_wp2_with fail
 rw [HSU.out];refine HF.out.mono ?_;rintro e w3 ⟨rfl, hl⟩;have HD := zI hl.done;have HX3 := zI (hl.bx HX2.out);have HB3 := zI (HB2.out.trans (hl.below.mono HB2.out.size));have s0 := HX3.out.at_ 0 (v := .int .u64 (id : Int)) rfl;have s1 := HX3.out.at_ 1 (v := .int .i64 (tier : Int)) rfl;have s2 := HX3.out.at_ 2 (v := .int .i64 (shard : Int)) rfl;have s3 := HX3.out.at_ 3 (v := .int .i64 (place : Int)) rfl;have s4 := HX3.out.at_ 4 (v := .int .i64 (of : Int)) rfl;have s5 := HX3.out.at_ 5 (v := .int .i64 (n : Int)) rfl;clear hl;go_wp2_with fail
 refine HD.out.mono ?_;rintro e w4 ⟨rfl, hw⟩;subst hw;have HC := zI (HH.out w3);go_wp2_with fail
 refine HC.out.mono ?_;rintro e w5 ⟨rfl, hb5⟩;have HE := zI (HB3.out.trans (hb5.mono HB3.out.size));have hz1 : (strOf (sgHd id tier shard place of n)).size <= 1000 := by rw [Jac, Jm8]; omega
 have hz2 : (strOf X).size <= 1000 := by omega
 have hz3 : (strOf (zeros (208 - 64 * n))).size <= 1000 := by rw [Jac, Jdj]; omega
 have hz4 : (strOf (sgHd id tier shard place of n) ++ strOf X).size <= 2000 := by rw [Jd6, Jac, List.length_append]; rw [Jac] at hz1 hz2; omega
 have HQ := zI (show strOf (sgHd id tier shard place of n) ++ strOf X ++ strOf (zeros (208 - 64 * n)) = strOf (sgBk id tier shard place of l) from by rw [Jd6, Jd6, HSG.out, List.append_assoc]);generalize strOf (zeros (208 - 64 * n)) = Z at *;generalize strOf (sgHd id tier shard place of n) = H at *;generalize strOf X = Y at *;clear hb5 s0 s1 s2 s3 s4 s5;go_wp2_with fail
 rw [HQ.out];go_ret;exact ⟨rfl, HE.out⟩
theorem J1b (a b : ByteArray) (x y : Int) (r s t u v r' s' t' u' v' : Value) (w : World) :
  Calls Tryz.prog 212 #[.agg #[.string a, .int .i64 x, r, s, t, u, v], .agg #[.string b, .int .i64 y, r', s', t', u', v']] w fun e w' => e = .returned (.bool (Jc7 a.toList x b.toList y)) /\ Below w.heap.size w w' := by
 go_enter Tryz.func212, Tryz.ntmps212;go_wp2_with (go_at_call 229; refine (Jpw _ _ _ _ _ _ _ _ _ _ _ _ _ _ _).mono ?_; rintro e w1 ⟨rfl, hb⟩)
 go_ret;exact ⟨rfl, (((Below.refl _ _).alloc (by omega) _).alloc (by simp) _).trans (hb.mono (by simp; omega))⟩
end Go.Proofs.YtalkkhafcfhglaaGreatDoor
