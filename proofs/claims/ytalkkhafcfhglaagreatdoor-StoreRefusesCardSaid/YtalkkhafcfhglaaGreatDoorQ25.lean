/-
  Several texts in one: Pk, Packr, Packw, Packs, Packt, Packn, Packm, Unp, Unpk, Unps.
-/
import Derived.Laws.IdiomStrings
import Derived.Deep.OwnShut
import Derived.Laws.BytesString
import Derived.Lib.EndianBits
import Derived.Test.YtalkkhafcfhglaaGreatDoorQ12
set_option maxRecDepth 100000
set_option maxHeartbeats 4000000
namespace Go.Proofs.YtalkkhafcfhglaaGreatDoor
def le : Nat -> Nat -> List UInt8
 | 0, _ => []
 | k + 1, v => UInt8.ofNat v :: le k (v / 256)
def leN : List UInt8 -> Nat
 | [] => 0
 | c :: r => c.toNat + 256 * leN r
@[simp] theorem Jaz (k v : Nat) : (le k v).length = k := by
 induction k generalizing v with
 | zero => rfl
 | succ k ih => simp [le, ih]
theorem Jw6 (v : Nat) : (UInt8.ofNat v).toNat = v % 256 := by simp
theorem J47 (k v : Nat) : leN (le k v) = v % 256 ^ k := by
 induction k generalizing v with
 | zero => simp [le, leN, Nat.mod_one]
 | succ k ih => rw [le, leN, ih, Jw6, Nat.pow_succ, Nat.mul_comm (256 ^ k) 256, Nat.mod_mul]
theorem Jmz {k v : Nat} (h : v < 256 ^ k) : leN (le k v) = v := by rw [J47, Nat.mod_eq_of_lt h]
theorem J19 (l : List UInt8) : leN l < 256 ^ l.length := by
 induction l with
 | nil => simp [leN]
 | cons c r ih =>
   have h := c.toNat_lt;rw [leN, List.length_cons, Nat.pow_succ];omega
theorem le_succ (k v : Nat) : le (k + 1) v = le k v ++ [UInt8.ofNat (v / 256 ^ k)] := by
 induction k generalizing v with
 | zero => simp [le]
 | succ k ih =>
   rw [le, ih, le, List.cons_append, Nat.div_div_eq_div_mul, Nat.pow_succ, Nat.mul_comm 256]
theorem J0x (l : List UInt8) (c : UInt8) : leN (l ++ [c]) = leN l + 256 ^ l.length * c.toNat := by
 induction l with
 | nil => simp [leN]
 | cons d r ih =>
   rw [List.cons_append, leN, leN, ih, List.length_cons, Nat.pow_succ, Nat.mul_add, <- Nat.mul_assoc, Nat.mul_comm (256 ^ r.length) 256];omega
theorem Jqn (k : Nat) : 256 ^ k = 2 ^ (8 * k) := by rw [Nat.pow_mul]
theorem J48 (l : List UInt8) (c : UInt8) : leN l ||| (c.toNat * 2 ^ (8 * l.length)) = leN (l ++ [c]) := by
 have h := J19 l;rw [Jqn] at h;rw [J0x, Jqn, Nat.mul_comm c.toNat, Nat.or_comm, <- Nat.two_pow_add_eq_or_of_lt h];omega
def u64 (n : Int) : Nat := (n % 18446744073709551616).toNat
theorem J2a (n : Int) : u64 n < 256 ^ 8 := by unfold u64; omega
def i64 (v : Nat) : Int := if (v : Int) < 9223372036854775808 then v else (v : Int) - 18446744073709551616
theorem J3r {n : Int} (h : -9223372036854775808 <= n /\ n <= 9223372036854775807) : i64 (u64 n) = n := by
 unfold i64 u64;split <;> omega
open Go.RowKit
def u8c (c : UInt8) : Value := .int .u8 (c.toNat : Int)
theorem Jw7 : (Tryz.prog.info? 5).map (fun i => (i.zero, i.size, i.bytes)) = some (some (.int .u8 0), 1, 1) := by kernel_rfl
structure PkAt (w : World) (B g : Nat) (l : List UInt8) : Prop where
 ex : ∃ v, Bx w g 307 #[.int .i64 0, v] /\ w.ownsRow B 5 1 v l.length (l.map u8c)
 low : B <= g
abbrev PkSt (B g : Nat) (w w' : World) : Prop := Jav B g 5 w w'
theorem PkAt.below {w w' : World} {B g : Nat} {l : List UInt8} (h : PkAt w B g l) (hb : Below w.heap.size w w') : PkAt w' B g l := by
 obtain ⟨v, hB, hr⟩ := h.ex;exact ⟨⟨v, hB.below hb, Jaj hr hb⟩, h.low⟩
theorem PkAt.new (w : World) (B : Nat) (hB : B <= w.heap.size) : PkAt (w.alloc (.cells #[.int .i64 0, .slice none 0 0] 307)) B w.heap.size [] := ⟨⟨.slice none 0 0, Bx.new _ _ _, World.ownsRow_nil _ _ _ _⟩, hB⟩
theorem Jw8 (v : Nat) : (v : Int) % 256 = ((UInt8.ofNat v).toNat : Int) := by rw [Jw6]; omega
theorem Jjx (B g size v : Nat) (l : List UInt8) (w : World) (h : PkAt w B g l) (hs : size <= 60000) (hl : l.length <= 1000000) (hB : B <= w.heap.size) :
  Calls Tryz.prog 243 #[.pointer (some ⟨g, 0, none⟩), .int .u64 (v : Int), .int .i64 (size : Int)] w fun e w' => e = .returned (.tuple #[]) /\ PkAt w' B g (l ++ le size v) /\ PkSt B g w w' := by
 obtain ⟨i0, hi, hz0, hz1, hz2⟩ := info_parts Jw7;have HI := zI hi;have HI0 := zI hz0;have HI1 := zI hz1;have HI2 := zI hz2;have HW := zI h;clear hi hz0 hz1 hz2 h;go_enter Tryz.func243, Tryz.ntmps243;go_wp2;go_loopw [1, 7] (fun x i wr => ∃ k : Nat, k <= size /\ i = .int .i64 (k : Int) /\ x = .int .u64 ((v / 256 ^ k : Nat) : Int) /\ PkAt wr B g (l ++ le k v) /\ PkSt B g w wr) (fun _ i _ => size - (intOf i).toNat)
 case atStart => exact ⟨0, Nat.zero_le _, rfl, by simp, by simpa [le] using HW.out, Jav.refl _ _ _ _⟩
 case round =>
  obtain ⟨k, hk, rfl, rfl, hP, hst⟩ := hrel;by_cases hlt : k < size
  · obtain ⟨u, hBx, hr⟩ := hP.ex
    obtain ⟨vv, hvv⟩ : ∃ vv, vv = v / 256 ^ k := ⟨_, rfl⟩;have hvl : vv <= v := by rw [hvv]; exact Nat.div_le_self _ _
    have HLE := zI (show le (k + 1) v = le k v ++ [UInt8.ofNat vv] from by rw [hvv]; exact le_succ k v);have HVN := zI (show v / 256 ^ (k + 1) = vv / 256 from by rw [hvv, Nat.div_div_eq_div_mul, Nat.pow_succ]);rw [<- hvv];clear hvv;have hll : (l ++ le k v).length = l.length + k := (by simp);obtain ⟨L, hL⟩ : ∃ L, L = l ++ le k v := ⟨_, rfl⟩;obtain ⟨N, hN⟩ : ∃ N, N = L.length := ⟨_, rfl⟩;rw [<- hL, <- hN] at hr;rw [<- hL, <- hN] at hll;have HLC := zI hL;have HN := zI hN;clear hN hL;have b1 := hBx.at_ 1 rfl;have hb1 := hBx.free 1;have HSL := zI (Sl.new wr 5 wr.heap.size [.int .u8 ((vv : Int) % 256)] #[.int .u8 ((vv : Int) % 256)] rfl rfl);have HON := zI (show ∀ u ∈ [Value.int .u8 ((vv : Int) % 256)], u.oneCell' = true from fun u hu => by rw [List.mem_singleton.1 hu]; rfl);have hba := (Below.refl wr.heap.size wr).alloc (Nat.le_refl _) (.cells #[.int .u8 ((vv : Int) % 256)] 5);have HBA := zI hba;have HR1 := zI (Jaj hr hba);have HB1 := zI (hBx.below hba);have HST := zI hst;have hN6 : N <= 1060000 := (by omega);have HLOW := zI hP.low;have HU8 := zI (Jw8 vv);clear hP hBx hr hst hba hll;have hsa : (wr.alloc (.cells #[.int .u8 ((vv : Int) % 256)] 5)).heap.size = wr.heap.size + 1 := (by simp);have hwr := HST.out.size;go_wp2_with (at_builtin; refine Jan _ rfl _ _ 224 rfl B 5 i0 _ 1 1 Tryz.underlying224 HI.out HI0.out HI1.out HI2.out rfl (by decide) u N (L.map u8c) rfl HR1.out (some ⟨wr.heap.size, 0, none⟩) 1 1 [.int .u8 ((vv : Int) % 256)] rfl rfl HSL.out HON.out ?c4 ?c5 ?c6 ?_; (unfold maxLen; omega); (omega); (omega); intro v2 w2 hown2 hg2 _; obtain ⟨AV, cV, eV, _⟩ := Jaq hown2; subst eV; have BX2 := zI (HB1.out.grown hg2 (HB1.out.not_row HR1.out (by decide))); have y0 := BX2.out.at_ 1 rfl; have y1 := BX2.out.free 1)
    have bx3 := BX2.out.set 1 (.slice AV (N + 1) cV);have hst3 : PkSt B g w (w2.setCell ⟨g, 1, none⟩ (.slice AV (N + 1) cV)) := (HST.out.trans (Jav.of_below HBA.out)).trans ((Jav.row hg2 HR1.out).trans (Jav.set w2 1 (.slice AV (N + 1) cV)));have hr3 := hown2.kept (Jai w2 g 1 (.slice AV (N + 1) cV)) (.inr (fun e => BX2.out.not_row hown2 (by decide) e.symm));go_roundw
    case rel => exact ⟨k + 1, by omega, by go_num, by rw [HVN.out]; rfl, ⟨⟨.slice AV (N + 1) cV, bx3, by rw [HU8.out] at hr3; rw [HLE.out, <- List.append_assoc, <- HLC.out, List.map_append, List.length_append, <- HN.out]; exact hr3⟩, HLOW.out⟩, hst3⟩
    case measure => simp [intOf]; omega
  · have hke : size = k := by omega
    subst hke;go_wp2;go_end0
    exact ⟨rfl, hP, hst⟩
structure Jgm (w : World) (B g : Nat) (A : Option Addr) : Prop where
 ok : ∀ a, A = some a -> a.block < w.heap.size /\ a.block ≠ g /\ (a.block < B \/ ∀ cs fr, w.heap[a.block]? ≠ some (.cells cs 5 fr))
theorem Jgm.sl {w w' : World} {B g : Nat} {A : Option Addr} {xs : List Value} (h : Jgm w B g A) (hs : PkSt B g w w') (hx : Sl w A xs) : Sl w' A xs := by
 refine ⟨fun hne => ?_⟩;obtain ⟨b, off, rfl, hb, hc⟩ := hx.at_ hne;obtain ⟨h1, h2, h3⟩ := h.ok _ rfl;have e := hs.block b h1 h2 h3;exact ⟨b, off, rfl, Nat.lt_of_lt_of_le hb hs.size, fun j u hj => (World.cell?_of_block (w := w) e).trans (hc j u hj)⟩
theorem Jgm.new {w : World} {B g : Nat} {T : TypeId} (cs : Array Value) (hT : T ≠ 5) (hg : g < w.heap.size) : Jgm (w.alloc (.cells cs T)) B g (some ⟨w.heap.size, 0, none⟩) := by
 refine ⟨fun a e => ?_⟩;cases e
 refine ⟨by simp, by show w.heap.size ≠ g; omega, .inr fun cs' fr e => ?_⟩;rw [heap_alloc_new] at e;injection e with e;injection e with _ e;exact hT e
theorem PkAt.lt {w : World} {B g : Nat} {l : List UInt8} (h : PkAt w B g l) : g < w.heap.size := by obtain ⟨v, hb, _⟩ := h.ex; exact hb.lt
theorem PkAt.e0 {w : World} {B g : Nat} {l : List UInt8} (h : PkAt w B g l) : w.cell? ⟨g, 0, none⟩ = some (.int .i64 0) /\ w.frozen? ⟨g, 0, none⟩ = false := by
 obtain ⟨v, hb, _⟩ := h.ex;exact ⟨hb.at_ 0 rfl, hb.free 0⟩
theorem PkAt.set0 {w : World} {B g : Nat} {l : List UInt8} (h : PkAt w B g l) : PkAt (w.setCell ⟨g, 0, none⟩ (.int .i64 0)) B g l := by
 obtain ⟨v, hb, hr⟩ := h.ex;exact ⟨⟨v, hb.set 0 (.int .i64 0), hr.kept (Jai w g 0 _) (.inr (fun e => hb.not_row hr (by decide) e.symm))⟩, h.low⟩
theorem Jjy (B g : Nat) (l : List UInt8) (w : World) (h : PkAt w B g l) :
  Calls Tryz.prog 200 #[.pointer (some ⟨g, 0, none⟩), .int .i64 0] w fun e w' => e = .returned (.bool false) /\ PkAt w' B g l /\ PkSt B g w w' := by
 obtain ⟨e0, e1⟩ := h.e0;have h2 := h.set0;have e2 := h2.e0.1;have h3 : PkSt B g w (w.setCell ⟨g, 0, none⟩ (.int .i64 0)) := Jav.set w 0 _;clear h;go_enter Tryz.func200, Tryz.ntmps200;go_wp2;go_ret;exact ⟨rfl, h2, h3⟩
theorem Jhb (B g : Nat) (A : Option Addr) (n c : Nat) (vs : List Nat) (l : List UInt8) (w : World) (h : PkAt w B g l) (hA : Jgm w B g A) (hv : Sl w A (vs.map fun v : Nat => Value.int .u64 (v : Int))) (hn : vs.length = n) (hl : l.length + 8 * n <= 900000) (hB : B <= w.heap.size) :
  Calls Tryz.prog 195 #[.pointer (some ⟨g, 0, none⟩), .slice A n c] w fun e w' => e = .returned (.tuple #[]) /\ PkAt w' B g (l ++ vs.flatMap (le 8)) /\ PkSt B g w w' := by
 obtain ⟨e0, _⟩ := h.e0;have HW := zI h;have HV := zI hv;have HA := zI hA;clear h hv hA;go_enter Tryz.func195, Tryz.ntmps195;go_wp2_with fail
 go_loopw [18] (fun i wr => ∃ k : Nat, k <= n /\ i = .int .i64 (k : Int) /\ PkAt wr B g (l ++ (vs.take k).flatMap (le 8)) /\ PkSt B g w wr) (fun i _ => n - (intOf i).toNat)
 case atStart => exact ⟨0, Nat.zero_le _, rfl, by simpa using HW.out, Jav.refl _ _ _ _⟩
 case round =>
  obtain ⟨k, hk, rfl, hP, hst⟩ := hrel;by_cases hlt : k < n
  · have K : k < vs.length := by rw [hn]; exact hlt
    obtain ⟨b, off, rfl, _, hc⟩ := (HA.out.sl hst HV.out).get (j := k) (by simpa using K);rw [List.getElem_map] at hc
    have HF := zI (show (vs.take (k + 1)).flatMap (le 8) = (vs.take k).flatMap (le 8) ++ le 8 vs[k] from by
     have e : vs.take (k + 1) = vs.take k ++ [vs[k]] := by rw [List.take_add_one, List.getElem?_eq_getElem K]; rfl
     rw [e, List.flatMap_append, List.flatMap_cons, List.flatMap_nil, List.append_nil])
    have hfl : ((vs.take k).flatMap (le 8)).length = 8 * k := by
     have h1 : ∀ m : List Nat, (m.flatMap (le 8)).length = 8 * m.length := fun m => by
      induction m with
      | nil => rfl
      | cons a r ih => rw [List.flatMap_cons, List.length_append, ih]; simp; omega
     rw [h1, List.length_take]; omega
    have HLB := zI (show (l ++ (vs.take k).flatMap (le 8)).length <= 1000000 from by rw [List.length_append, hfl]; omega);have HSZ := zI hst.size;have HST := zI hst;have HLO := zI (Jjx B g 8 vs[k] _ wr hP (by omega) HLB.out (Nat.le_trans hB hst.size));clear hP hst hfl;generalize vs[k]'K = x at *;go_wp2_with fail
    refine HLO.out.mono ?_;rintro e w2 ⟨rfl, hP2, hs2⟩;go_wp2_with fail
    go_roundw
    case rel => exact ⟨k + 1, by omega, by go_num, by rw [HF.out, <- List.append_assoc]; exact hP2, HST.out.trans hs2⟩
    case measure => simp [intOf]; omega
  · have hke : n = k := by omega
    have HT := zI (show vs.take k = vs from by rw [<- hke, <- hn, List.take_length]);rw [HT.out] at hP;clear HT;go_wp2_with fail
    go_end0
    exact ⟨rfl, hP, hst⟩
theorem J3s (n : Int) : ((u64 n : Nat) : Int) = n % 18446744073709551616 := by unfold u64; omega
theorem Jm0 (B g : Nat) (A : Option Addr) (n c : Nat) (vs : List Int) (l : List UInt8) (w : World) (h : PkAt w B g l) (hA : Jgm w B g A) (hv : Sl w A (vs.map (Value.int .i64))) (hn : vs.length = n) (hl : l.length + 8 * n <= 800000) (hB : B <= w.heap.size) :
  Calls Tryz.prog 196 #[.pointer (some ⟨g, 0, none⟩), .slice A n c] w fun e w' => e = .returned (.tuple #[]) /\ PkAt w' B g (l ++ vs.flatMap fun v => le 8 (u64 v)) /\ PkSt B g w w' := by
 have HW := zI h;have HV := zI hv;have HA := zI hA;clear h hv hA;go_enter Tryz.func196, Tryz.ntmps196;go_wp2_with fail
 go_loopw [8] (fun i wr => ∃ k : Nat, k <= n /\ i = .int .i64 (k : Int) /\ PkAt wr B g (l ++ (vs.take k).flatMap fun v => le 8 (u64 v)) /\ PkSt B g w wr) (fun i _ => n - (intOf i).toNat)
 case atStart => exact ⟨0, Nat.zero_le _, rfl, by simpa using HW.out, Jav.refl _ _ _ _⟩
 case round =>
  obtain ⟨k, hk, rfl, hP, hst⟩ := hrel;by_cases hlt : k < n
  · have K : k < vs.length := by rw [hn]; exact hlt
    obtain ⟨b, off, rfl, _, hc⟩ := (HA.out.sl hst HV.out).get (j := k) (by simpa using K);rw [List.getElem_map] at hc
    have HF := zI (show ((vs.take (k + 1)).flatMap fun v => le 8 (u64 v)) = ((vs.take k).flatMap fun v => le 8 (u64 v)) ++ le 8 (u64 vs[k]) from by
     have e : vs.take (k + 1) = vs.take k ++ [vs[k]] := by rw [List.take_add_one, List.getElem?_eq_getElem K]; rfl
     rw [e, List.flatMap_append, List.flatMap_cons, List.flatMap_nil, List.append_nil])
    have hfl : ((vs.take k).flatMap fun v => le 8 (u64 v)).length = 8 * k := by
     have h1 : ∀ m : List Int, (m.flatMap fun v => le 8 (u64 v)).length = 8 * m.length := fun m => by
      induction m with
      | nil => rfl
      | cons a r ih => rw [List.flatMap_cons, List.length_append, ih]; simp; omega
     rw [h1, List.length_take]; omega
    have HLB := zI (show (l ++ (vs.take k).flatMap fun v => le 8 (u64 v)).length + 8 * 1 <= 900000 from by rw [List.length_append, hfl]; omega);have HST := zI hst;have hba := (Below.refl wr.heap.size wr).alloc (Nat.le_refl _) (.cells #[.int .u64 (vs[k] % 18446744073709551616)] 43);have HBA := zI hba
    have HSL := zI (show Sl (wr.alloc (.cells #[.int .u64 (vs[k] % 18446744073709551616)] 43)) (some ⟨wr.heap.size, 0, none⟩) ([u64 vs[k]].map fun v : Nat => Value.int .u64 (v : Int)) from by
     rw [List.map_cons, List.map_nil, J3s];exact Sl.new wr 43 wr.heap.size [.int .u64 (vs[k] % 18446744073709551616)] #[.int .u64 (vs[k] % 18446744073709551616)] rfl rfl)
    have HLO := zI (Jhb B g _ 1 1 [u64 vs[k]] _ _ (hP.below hba) (Jgm.new _ (by decide) hP.lt) HSL.out rfl HLB.out (Nat.le_trans hB (Nat.le_trans hst.size hba.size)));have HFL := zI (show ([u64 vs[k]].flatMap (le 8)) = le 8 (u64 vs[k]) from by rw [List.flatMap_cons, List.flatMap_nil, List.append_nil]);rw [HFL.out] at HLO;clear hP hst hfl hba HSL HFL;generalize vs[k]'K = x at *;go_wp2_with fail
    refine HLO.out.mono ?_;rintro e w2 ⟨rfl, hP2, hs2⟩;go_wp2_with fail
    go_roundw
    case rel => exact ⟨k + 1, by omega, by go_num, by rw [HF.out, <- List.append_assoc]; exact hP2, (HST.out.trans (Jav.of_below HBA.out)).trans hs2⟩
    case measure => simp [intOf]; omega
  · have hke : n = k := by omega
    have HT := zI (show vs.take k = vs from by rw [<- hke, <- hn, List.take_length]);rw [HT.out] at hP;clear HT;go_wp2_with fail
    go_end0
    exact ⟨rfl, hP, hst⟩
def Jds (size : Nat) : Prop := size = 1 \/ size = 2 \/ size = 4
theorem Jds.lt {size v : Nat} (h : Jds size) (hv : v < 256 ^ size) : v < 4294967296 := by
 rcases h with rfl | rfl | rfl <;> simp at hv <;> omega
theorem Jqo (size v : Nat) (w : World) (hs : Jds size) (hv : v < 256 ^ size) :
  Calls Tryz.prog 201 #[.int .i64 (size : Int), .int .i64 (v : Int)] w fun e w' => e = .returned (.int .i64 0) /\ w = w' := by
 have h1 : decide ((v : Int) < 0) = false := decide_eq_false (by omega);rcases hs with rfl | rfl | rfl
 · simp at hv
   have h2 : ((v : Int) / 256 != 0) = false := by rw [show (v : Int) / 256 = 0 by omega]; rfl
   go_enter Tryz.func201, Tryz.ntmps201;go_wp2;go_ret;exact ⟨rfl, rfl⟩
 · simp at hv
   have h2 : ((v : Int) / 65536 != 0) = false := by rw [show (v : Int) / 65536 = 0 by omega]; rfl
   go_enter Tryz.func201, Tryz.ntmps201;go_wp2;go_ret;exact ⟨rfl, rfl⟩
 · simp at hv
   have h2 : ((v : Int) / 4294967296 != 0) = false := by rw [show (v : Int) / 4294967296 = 0 by omega]; rfl
   go_enter Tryz.func201, Tryz.ntmps201;go_wp2;go_ret;exact ⟨rfl, rfl⟩
theorem Jo1 {α : Type} (f : α -> List UInt8) {vs : List α} {k : Nat} (K : k < vs.length) : (vs.take (k + 1)).flatMap f = (vs.take k).flatMap f ++ f vs[k] := by
 have e : vs.take (k + 1) = vs.take k ++ [vs[k]] := by rw [List.take_add_one, List.getElem?_eq_getElem K]; rfl
 rw [e, List.flatMap_append, List.flatMap_cons, List.flatMap_nil, List.append_nil]
theorem Jem {α : Type} (f : α -> List UInt8) (c : Nat) (h : ∀ a, (f a).length = c) : ∀ m : List α, (m.flatMap f).length = c * m.length
 | [] => by simp
 | a :: r => by rw [List.flatMap_cons, List.length_append, Jem f c h r, h, List.length_cons, Nat.mul_add]; omega
structure PkIn (w w' : World) (B g : Nat) (l : List UInt8) : Prop where
 at_ : PkAt w' B g l
 st : PkSt B g w w'
theorem PkIn.drew {w w' : World} {B g : Nat} {l : List UInt8} (h : PkIn w w' B g l) : PkIn w w'.drew B g l := ⟨h.at_.below (Below.refl _ _).drew, h.st.trans (Jav.of_below (Below.refl _ _).drew)⟩
theorem PkIn.next {w w1 w' : World} {B g : Nat} {l l' : List UInt8} (h : PkIn w w1 B g l) (h2 : PkAt w' B g l') (h3 : PkSt B g w1 w') : PkIn w w' B g l' := ⟨h2, h.st.trans h3⟩
theorem Jfg (B g size : Nat) (A : Option Addr) (n c : Nat) (vs : List Nat) (l : List UInt8) (w : World) (h : PkAt w B g l) (hs : Jds size) (hv : ∀ v ∈ vs, v < 256 ^ size) (hA : Jgm w B g A) (hsl : Sl w A (vs.map fun v : Nat => Value.int .i64 (v : Int))) (hn : vs.length = n) (hl : l.length + 4 * n <= 900000) (hB : B <= w.heap.size) :
  Calls Tryz.prog 206 #[.pointer (some ⟨g, 0, none⟩), .int .i64 (size : Int), .slice A n c] w fun e w' => e = .returned (.tuple #[]) /\ PkAt w' B g (l ++ vs.flatMap (le size)) /\ PkSt B g w w' := by
 have HV := zI hsl;have HA := zI hA;have HF0 := zI (fun W => Jqo size 0 W hs (Nat.pow_pos (by decide)));have HFL := zI (fun W hW => Jjy B g l W hW);have hin : PkIn w w B g l := ⟨h, Jav.refl _ _ _ _⟩;have HIN := zI hin;have hind := hin.drew;clear hsl hA h hin;go_enter Tryz.func206, Tryz.ntmps206;go_upto_region 0 with fail
 go_region_held3 (fun w' => PkIn w w' B g l)
  (first
    | assumption
    | exact hind
    | exact PkIn.drew (by assumption))
  (first
    | (go_at_call 201; refine (HF0.out _).mono ?_; rintro e wf ⟨rfl, hwf⟩; subst hwf)
    | (go_at_call 200; refine (HFL.out _ (PkIn.at_ (by assumption))).mono ?_; rintro e wq ⟨rfl, hpq, hsq⟩; have hinq := PkIn.next (by assumption) hpq hsq))
 have HQ := zI hinq;have hwq := hinq.st.size;clear hinq hpq hsq hind;go_wp2_with fail
 go_loopw [20] (fun i wr => ∃ k : Nat, k <= n /\ i = .int .i64 (k : Int) /\ PkIn w wr B g (l ++ (vs.take k).flatMap (le size))) (fun i _ => n - (intOf i).toNat)
 case atStart => exact ⟨0, Nat.zero_le _, rfl, by simpa using HQ.out⟩
 case round =>
  obtain ⟨k, hk, rfl, hin⟩ := hrel;by_cases hlt : k < n
  · have K : k < vs.length := by rw [hn]; exact hlt
    obtain ⟨b, off, rfl, _, hc⟩ := (HA.out.sl hin.st HV.out).get (j := k) (by simpa using K);rw [List.getElem_map] at hc;have HF := zI (Jo1 (le size) K);have hfl := Jem (le size) size (fun a => Jaz size a) (vs.take k);have hs4 : size <= 4 := by rcases hs with rfl | rfl | rfl <;> omega
    have hmk : size * (vs.take k).length <= 4 * n := Nat.mul_le_mul hs4 (by rw [List.length_take]; omega);have HLB := zI (show (l ++ (vs.take k).flatMap (le size)).length <= 1000000 from by rw [List.length_append, hfl]; omega);have HF1 := zI (fun W => Jqo size vs[k] W hs (hv _ (List.getElem_mem K)));have hv32 := hs.lt (hv _ (List.getElem_mem K));generalize vs[k]'K = x at *;obtain ⟨L, hL⟩ : ∃ L, L = l ++ (vs.take k).flatMap (le size) := ⟨_, rfl⟩;rw [<- hL] at hin HLB;have HLC := zI hL;have HF2 := zI (fun W hW => Jjy B g L W hW);have HLO := zI (fun W hW hB => Jjx B g size x L W hW (by omega) HLB.out hB);have hwr := hin.st.size;have hind := hin.drew;clear hL hfl hmk;go_upto_region 4 with fail
    go_region_held3 (fun w' => PkIn w w' B g L)
     (first
       | assumption
       | exact hind
       | exact PkIn.drew (by assumption))
     (first
       | (go_at_call 201; refine (HF1.out _).mono ?_; rintro e wf ⟨rfl, hwf⟩; subst hwf)
       | (go_at_call 200; refine (HF2.out _ (PkIn.at_ (by assumption))).mono ?_; rintro e wz ⟨rfl, hpz, hsz⟩; have hinz := PkIn.next (by assumption) hpz hsz))
    have hwz := hinz.st.size;have hx64 : (x : Int) % 18446744073709551616 = (x : Int) := (by omega);go_wp2_with fail
    refine (HLO.out _ hinz.at_ (Nat.le_trans hB hwz)).mono ?_;rintro e w2 ⟨rfl, hP2, hs2⟩;have hin2 := hinz.next hP2 hs2;go_wp2_with fail
    go_roundw
    case rel => exact ⟨k + 1, by omega, by go_num, by rw [HF.out, <- List.append_assoc, <- HLC.out]; exact hin2⟩
    case measure => simp [intOf]; omega
  · have hke : n = k := by omega
    have HT := zI (show vs.take k = vs from by rw [<- hke, <- hn, List.take_length]);rw [HT.out] at hin;clear HT;go_wp2_with fail
    go_end0
    exact ⟨rfl, hin.at_, hin.st⟩
def zeros (n : Nat) : List UInt8 := List.replicate n 0
@[simp] theorem Jdj (n : Nat) : (zeros n).length = n := by simp [zeros]
theorem Jw9 (k : Nat) : le k 0 = zeros k := by
 induction k with
 | zero => rfl
 | succ k ih => rw [le, Nat.zero_div, ih]; rfl
theorem Jo2 (s : ByteArray) : Lib.strCells s = s.toList.map u8c := by rw [ByteArray.toList_eq]; rfl
def strOf (l : List UInt8) : ByteArray := ⟨l.toArray⟩
theorem J3t {w : World} {B n c : Nat} {A : Option Addr} {l : List UInt8} (h : w.ownsRow B 5 1 (.slice A n c) n (l.map u8c)) (hn : l.length = n) :
  (convert 224 9 (.slice A n c)).run Tryz.prog w = .ok (.string (strOf l)) w := by
 subst hn;obtain ⟨A', c', e, hs⟩ := Jaq h;cases e
 rcases A with _ | a
 · have hl : l = [] := by
    rcases l with _ | ⟨x, r⟩
    · rfl
    · obtain ⟨b, off, e, _⟩ := hs.at_ (by simp)
      cases e
   subst hl;rw [run_convert_bytes_string w 224 9 5 none _ c Tryz.underlying224 Tryz.underlying5 Tryz.underlying9];simp [Conv.bytesToString, strOf];rfl
 · refine run_convert_bytes_back w 224 9 5 a c l Tryz.underlying224 Tryz.underlying5 Tryz.underlying9 (fun j hj => ?_)
   exact J13 w hs j _ (by rw [List.getElem?_map, List.getElem?_eq_getElem hj]; rfl)
theorem Jm1 (B g : Nat) (l : List UInt8) (w : World) (h : PkAt w B g l) :
  Calls Tryz.prog 198 #[.pointer (some ⟨g, 0, none⟩)] w fun e w' => e = .returned (.tuple #[.string (strOf l), .int .i64 0]) /\ w = w' := by
 obtain ⟨v, hB, hr⟩ := h.ex;obtain ⟨A, c, rfl, _⟩ := Jaq hr;have e0 := hB.at_ 0 (v := .int .i64 0) rfl;have e1 := hB.at_ 1 (v := .slice A l.length c) rfl;have hc := J3t hr rfl;clear hB hr h;go_enter Tryz.func198, Tryz.ntmps198;go_wp2;go_ret2;exact ⟨rfl, rfl⟩
theorem J0y (B g : Nat) (l : List UInt8) (w : World) (h : PkAt w B g l) :
  Calls Tryz.prog 207 #[.pointer (some ⟨g, 0, none⟩)] w fun e w' => e = .returned (.int .i64 (l.length : Int)) /\ w = w' := by
 obtain ⟨v, hB, hr⟩ := h.ex;obtain ⟨A, c, rfl, _⟩ := Jaq hr;have e1 := hB.at_ 1 (v := .slice A l.length c) rfl;clear hB hr h;go_enter Tryz.func207, Tryz.ntmps207;go_wp2;go_ret;exact ⟨rfl, rfl⟩
theorem Jsb (B g n : Nat) (l : List UInt8) (w : World) (h : PkAt w B g l) (hl : l.length <= n) (hn : n <= 60000) (hB : B <= w.heap.size) :
  Calls Tryz.prog 197 #[.pointer (some ⟨g, 0, none⟩), .int .i64 (n : Int)] w fun e w' => e = .returned (.tuple #[]) /\ PkAt w' B g (l ++ zeros (n - l.length)) /\ PkSt B g w w' := by
 obtain ⟨v, hBx, hr⟩ := h.ex;obtain ⟨A, c, rfl, _⟩ := Jaq hr;have e1 := hBx.at_ 1 (v := .slice A l.length c) rfl;have HFA := zI (Jjy B g l w h);have HLO := zI (fun W hW hB => Jjx B g (n - l.length) 0 l W hW (by omega) (by omega) hB);rw [Jw9] at HLO;have h1 : decide ((n : Int) < (l.length : Int)) = false := decide_eq_false (by omega);have h2 : decide ((n : Int) < 0) = false := decide_eq_false (by omega);have h3 : decide ((60000 : Int) < (n : Int)) = false := decide_eq_false (by omega);clear hBx hr;go_enter Tryz.func197, Tryz.ntmps197;go_wp2_with fail
 refine HFA.out.mono ?_;rintro e w2 ⟨rfl, hP2, hs2⟩;have hw2 := hs2.size;obtain ⟨v2, hBx2, hr2⟩ := hP2.ex;obtain ⟨A2, c2, rfl, _⟩ := Jaq hr2;have e2 := hBx2.at_ 1 (v := .slice A2 l.length c2) rfl;have hsub : ((n : Int) - (l.length : Int)) = ((n - l.length : Nat) : Int) := by omega
 have HS2 := zI hs2;have HLO2 := zI (HLO.out w2 hP2 (Nat.le_trans hB hw2));clear hBx2 hr2 hP2 hs2 e1 h;go_upto_region 7 with fail
 go_wp2_with fail
 refine HLO2.out.mono ?_;rintro e w3 ⟨rfl, hP3, hs3⟩;go_wp2_with fail
 go_end0
 exact ⟨rfl, hP3, HS2.out.trans hs3⟩
def txB (s : List UInt8) : List UInt8 := le 2 s.length ++ s
theorem J0z (B g : Nat) (s : ByteArray) (l : List UInt8) (w : World) (h : PkAt w B g l) (hl : l.length <= 600000) (hs : s.size <= 60000) (hB : B <= w.heap.size) :
  Calls Tryz.prog 205 #[.pointer (some ⟨g, 0, none⟩), .string s] w fun e w' => e = .returned (.tuple #[]) /\ PkAt w' B g (l ++ txB s.toList) /\ PkSt B g w w' := by
 obtain ⟨i0, hi, hz0, hz1, hz2⟩ := info_parts Jw7;have HI := zI hi;have HI0 := zI hz0;have HI1 := zI hz1;have HI2 := zI hz2;clear hi hz0 hz1 hz2;have HFA := zI (Jjy B g l w h);have hsl : s.toList.length = s.size := by rw [ByteArray.toList_eq, Array.length_toList]; rfl
 have hx64 : (s.size : Int) % 18446744073709551616 = (s.size : Int) := by omega
 clear h;go_enter Tryz.func205, Tryz.ntmps205;go_wp2_with fail
 refine HFA.out.mono ?_;rintro e w2 ⟨rfl, hP2, hs2⟩;have HS2 := zI hs2;have hw2 := hs2.size;have HLO := zI (Jjx B g 2 s.size l w2 hP2 (by omega) (by omega) (Nat.le_trans hB hw2));clear hP2 hs2;go_wp2_with fail
 refine HLO.out.mono ?_;rintro e w3 ⟨rfl, hP3, hs3⟩;have HS3 := zI (HS2.out.trans hs3);have hw3 := hs3.size;obtain ⟨v, hBx, hr⟩ := hP3.ex;have HLOW := zI hP3.low;obtain ⟨L, hL⟩ : ∃ L, L = l ++ le 2 s.size := ⟨_, rfl⟩;obtain ⟨N, hN⟩ : ∃ N, N = L.length := ⟨_, rfl⟩;rw [<- hL, <- hN] at hr;have hNl : N <= 600002 := by rw [hN, hL, List.length_append, Jaz]; omega
 have HN := zI hN;have HLC := zI hL;have b1 := hBx.at_ 1 (v := v) rfl;have HB1 := zI hBx;have HR1 := zI hr;obtain ⟨A, c, rfl, _⟩ := Jaq hr;clear hBx hr hP3 hs3 hL hN;go_wp2_with (at_builtin; refine Lib.wpList_append_own_string _ rfl _ _ 224 9 rfl B 5 i0 Tryz.underlying224 Tryz.underlying9 HI.out HI0.out HI1.out HI2.out (.slice A N c) N (L.map u8c) rfl HR1.out s rfl ?c4 ?c5 ?c6 ?_; (unfold maxLen; omega); (omega); (omega); intro v2 w4 hown2 hg2 _; obtain ⟨AV, cV, eV, _⟩ := Jaq hown2; subst eV; have BX2 := zI (HB1.out.grown hg2 (HB1.out.not_row HR1.out (by decide))); have y0 := BX2.out.at_ 1 rfl; have y1 := BX2.out.free 1)
 have bx3 := BX2.out.set 1 (.slice AV (N + s.size) cV);have hst3 : PkSt B g w (w4.setCell ⟨g, 1, none⟩ (.slice AV (N + s.size) cV)) := HS3.out.trans ((Jav.row hg2 HR1.out).trans (Jav.set w4 1 _));have hr3 := hown2.kept (Jai w4 g 1 (.slice AV (N + s.size) cV)) (.inr (fun e => BX2.out.not_row hown2 (by decide) e.symm));go_wp2_with fail
 go_end0
 refine ⟨rfl, ⟨⟨.slice AV (N + s.size) cV, bx3, ?_⟩, HLOW.out⟩, hst3⟩;unfold txB;rw [hsl, <- List.append_assoc, <- HLC.out, List.length_append, <- HN.out, List.map_append, hsl, <- Jo2];exact hr3
def nmB (s : List UInt8) : List UInt8 := UInt8.ofNat s.length :: (s ++ zeros (15 - s.length))
theorem Jh0 {s : List UInt8} (h : s.length <= 15) : (nmB s).length = 16 := by simp [nmB]; omega
theorem J3u (l : List UInt8) (s : ByteArray) : (l ++ [UInt8.ofNat s.size]) ++ s.toList ++ le (15 - s.size) 0 = l ++ nmB s.toList := by
 have hsl : s.toList.length = s.size := by rw [ByteArray.toList_eq, Array.length_toList]; rfl
 unfold nmB;rw [hsl, Jw9]
 simp
theorem Jxa (B g : Nat) (A : Option Addr) (n c : Nat) (ss : List ByteArray) (l : List UInt8) (w : World) (h : PkAt w B g l) (hs : ∀ s ∈ ss, s.size <= 15) (hA : Jgm w B g A) (hsl : Sl w A (ss.map Value.string)) (hn : ss.length = n) (hl : l.length + 16 * n <= 600000) (hB : B <= w.heap.size) :
  Calls Tryz.prog 283 #[.pointer (some ⟨g, 0, none⟩), .slice A n c] w fun e w' => e = .returned (.tuple #[]) /\ PkAt w' B g (l ++ ss.flatMap fun s => nmB s.toList) /\ PkSt B g w w' := by
 obtain ⟨i0, hi, hz0, hz1, hz2⟩ := info_parts Jw7;have HI := zI hi;have HI0 := zI hz0;have HI1 := zI hz1;have HI2 := zI hz2;have HW := zI (show PkIn w w B g l from ⟨h, Jav.refl _ _ _ _⟩);have HV := zI hsl;have HA := zI hA;clear hi hz0 hz1 hz2 h hsl hA;go_enter Tryz.func283, Tryz.ntmps283;go_wp2_with fail
 go_loopw [9] (fun i wr => ∃ k : Nat, k <= n /\ i = .int .i64 (k : Int) /\ PkIn w wr B g (l ++ (ss.take k).flatMap fun s => nmB s.toList)) (fun i _ => n - (intOf i).toNat)
 case atStart => exact ⟨0, Nat.zero_le _, rfl, by simpa using HW.out⟩
 case round =>
  obtain ⟨k, hk, rfl, hin⟩ := hrel;by_cases hlt : k < n
  · have K : k < ss.length := by rw [hn]; exact hlt
    obtain ⟨b, off, rfl, _, hc⟩ := (HA.out.sl hin.st HV.out).get (j := k) (by simpa using K);rw [List.getElem_map] at hc;have HF := zI (Jo1 (fun s : ByteArray => nmB s.toList) K);have h15 := hs _ (List.getElem_mem K)
    have hfl : ∀ m : List ByteArray, (∀ s ∈ m, s.size <= 15) -> (m.flatMap fun s => nmB s.toList).length = 16 * m.length := fun m => by
     induction m with
     | nil => intro _; rfl
     | cons a r ih =>
       intro hm;have ha : a.toList.length <= 15 := by rw [ByteArray.toList_eq, Array.length_toList]; exact hm a (by simp)
       rw [List.flatMap_cons, List.length_append, ih (fun s hs => hm s (by simp [hs])), Jh0 ha, List.length_cons];omega
    have hLB : (l ++ (ss.take k).flatMap fun s => nmB s.toList).length <= 600000 := by
     rw [List.length_append, hfl _ (fun s hs' => hs s (List.mem_of_mem_take hs')), List.length_take];omega
    generalize ss[k]'K = x at *;obtain ⟨L, hL⟩ : ∃ L, L = l ++ (ss.take k).flatMap fun s => nmB s.toList := ⟨_, rfl⟩;rw [<- hL] at hin hLB;have HLC := zI hL;have HFA := zI (Jjy B g L wr hin.at_);have hwr := hin.st.size;have HIN := zI hin;clear hL hfl hin;go_wp2_with fail
    refine HFA.out.mono ?_;rintro e w1 ⟨rfl, hP1, hs1⟩;have HST1 := zI (HIN.out.st.trans hs1);have hw1 := hs1.size;obtain ⟨v, hBx, hr⟩ := hP1.ex;have HLOW := zI hP1.low;obtain ⟨N, hN⟩ : ∃ N, N = L.length := ⟨_, rfl⟩;rw [<- hN] at hr;have hN6 : N <= 600000 := (by omega);have HN := zI hN;obtain ⟨AA, cc, rfl, _⟩ := Jaq hr;have b1 := hBx.at_ 1 (v := .slice AA N cc) rfl;have HSL := zI (Sl.new w1 5 w1.heap.size [.int .u8 (x.size : Int)] #[.int .u8 (x.size : Int)] rfl rfl);have HON := zI (show ∀ u ∈ [Value.int .u8 (x.size : Int)], u.oneCell' = true from fun u hu => by rw [List.mem_singleton.1 hu]; rfl);have hba := (Below.refl w1.heap.size w1).alloc (Nat.le_refl _) (.cells #[.int .u8 (x.size : Int)] 5);have HBA := zI hba;have HR1 := zI (Jaj hr hba);have HB1 := zI (hBx.below hba);have HU8 := zI (show (x.size : Int) = ((UInt8.ofNat x.size).toNat : Int) from by rw [<- Jw8]; omega);have hsa : (w1.alloc (.cells #[.int .u8 (x.size : Int)] 5)).heap.size = w1.heap.size + 1 := (by simp);clear hP1 hBx hr hs1 hba hN hLB;go_upto_region 8 with (at_builtin; refine Jan _ rfl _ _ 224 rfl B 5 i0 _ 1 1 Tryz.underlying224 HI.out HI0.out HI1.out HI2.out rfl (by decide) (.slice AA N cc) N (L.map u8c) rfl HR1.out (some ⟨w1.heap.size, 0, none⟩) 1 1 [.int .u8 (x.size : Int)] rfl rfl HSL.out HON.out ?c4 ?c5 ?c6 ?_; (unfold maxLen; omega); (omega); (omega); intro v2 w2 hown2 hg2 _; obtain ⟨AV, cV, eV, _⟩ := Jaq hown2; subst eV; have BX2 := zI (HB1.out.grown hg2 (HB1.out.not_row HR1.out (by decide))); have y0 := BX2.out.at_ 1 rfl; have y1 := BX2.out.free 1)
    have bx3 := BX2.out.set 1 (.slice AV (N + 1) cV);have hst3 : PkSt B g w (w2.setCell ⟨g, 1, none⟩ (.slice AV (N + 1) cV)) := (HST1.out.trans (Jav.of_below HBA.out)).trans ((Jav.row hg2 HR1.out).trans (Jav.set w2 1 _));have hr3 := hown2.kept (Jai w2 g 1 (.slice AV (N + 1) cV)) (.inr (fun e => BX2.out.not_row hown2 (by decide) e.symm));have hw2 := hg2.size;have HR3 := zI hr3;have HB3 := zI bx3;have HS3 := zI hst3;obtain ⟨w3, hw3⟩ : ∃ w3, w3 = w2.setCell ⟨g, 1, none⟩ (.slice AV (N + 1) cV) := ⟨_, rfl⟩;rw [<- hw3] at HR3 HB3 HS3 ⊢;have hws : w2.heap.size = w3.heap.size := by rw [hw3]; exact (World.size_setCell w2 _ _).symm
    have c1 := HB3.out.at_ 1 (v := .slice AV (N + 1) cV) rfl;clear hw3 bx3 hst3 hr3 hown2 hg2 BX2 y0 y1;go_upto_region 9 with (at_builtin; refine Lib.wpList_append_own_string _ rfl _ _ 224 9 rfl B 5 i0 Tryz.underlying224 Tryz.underlying9 HI.out HI0.out HI1.out HI2.out (.slice AV (N + 1) cV) (N + 1) (L.map u8c ++ [.int .u8 (x.size : Int)]) rfl HR3.out x rfl ?d4 ?d5 ?d6 ?_; (unfold maxLen; omega); (omega); (omega); intro v4 w4 hown4 hg4 _; obtain ⟨AY, cY, eY, _⟩ := Jaq hown4; subst eY; have BX4 := zI (HB3.out.grown hg4 (HB3.out.not_row HR3.out (by decide))); have y0 := BX4.out.at_ 1 rfl; have y1 := BX4.out.free 1)
    have bx5 := BX4.out.set 1 (.slice AY (N + 1 + x.size) cY);have hst5 : PkSt B g w (w4.setCell ⟨g, 1, none⟩ (.slice AY (N + 1 + x.size) cY)) := HS3.out.trans ((Jav.row hg4 HR3.out).trans (Jav.set w4 1 _));have hr5 := hown4.kept (Jai w4 g 1 (.slice AY (N + 1 + x.size) cY)) (.inr (fun e => BX4.out.not_row hown4 (by decide) e.symm));have hw4 := hg4.size;obtain ⟨w5, hw5⟩ : ∃ w5, w5 = w4.setCell ⟨g, 1, none⟩ (.slice AY (N + 1 + x.size) cY) := ⟨_, rfl⟩;rw [<- hw5] at bx5 hst5 hr5 ⊢;have hxl : x.toList.length = x.size := by rw [ByteArray.toList_eq, Array.length_toList]; rfl
    have hP5 : PkAt w5 B g (L ++ [UInt8.ofNat x.size] ++ x.toList) := by
     refine ⟨⟨_, bx5, ?_⟩, HLOW.out⟩;rw [List.length_append, List.length_append, hxl, <- HN.out, List.map_append, List.map_append, <- Jo2];rw [HU8.out] at hr5;exact hr5
    have hws5 : w4.heap.size = w5.heap.size := by rw [hw5]; exact (World.size_setCell w4 _ _).symm
    have hsub : (15 : Int) - (x.size : Int) = ((15 - x.size : Nat) : Int) := (by omega);have HLO := zI (Jjx B g (15 - x.size) 0 _ w5 hP5 (by omega) (by rw [List.length_append, List.length_append, hxl, <- HN.out]; simp; omega) (by omega));rw [J3u] at HLO;have HS5 := zI hst5;clear hw5 bx5 hr5 hP5 hown4 hg4 BX4 y0 y1 hxl hst5;go_wp2_with fail
    refine HLO.out.mono ?_;rintro e w6 ⟨rfl, hP6, hs6⟩;go_wp2_with fail
    go_roundw
    case rel => exact ⟨k + 1, by omega, by go_num, by rw [HF.out, <- List.append_assoc, <- HLC.out]; exact ⟨hP6, HS5.out.trans hs6⟩⟩
    case measure => simp [intOf]; omega
  · have hke : n = k := by omega
    have HT := zI (show ss.take k = ss from by rw [<- hke, <- hn, List.take_length]);rw [HT.out] at hin;clear HT;go_wp2_with fail
    go_end0
    exact ⟨rfl, hin.at_, hin.st⟩
theorem Jxb (l : List UInt8) (w : World) : ∃ c w1, (convert 9 224 (.string (strOf l))).run Tryz.prog w = .ok (.slice (some ⟨w.heap.size, 0, none⟩) l.length c) w1 /\ Below w.heap.size w w1 /\ w1.heap.size = w.heap.size + 1 /\
  ∀ j (hj : j < l.length), w1.cell? ⟨w.heap.size, j, none⟩ = some (.int .u8 (l[j].toNat : Int)) := by
 refine ⟨_, _, run_bytes_of_string w 9 224 5 (strOf l) Tryz.underlying9 Tryz.underlying224 Tryz.underlying5, (Below.refl _ _).drew.alloc (Nat.le_refl _) _, by simp, fun j hj => ?_⟩;have h1 := World.cell?_alloc_mark w.drew (bytesRow (strOf l) (grownCap w (strOf l).size 0 5)) 5 ((bytesRow (strOf l) (grownCap w (strOf l).size 0 5)).size, (bytesRow (strOf l) (grownCap w (strOf l).size 0 5)).size + 1) j;exact h1.trans (bytesRow_at (strOf l) _ j (by simpa [strOf] using hj))
theorem Jxc {l : List UInt8} {k : Nat} (h : k < l.length) (hk : k <= 7) {x : UInt8} (hx : l[k] = x) : bits BinOp.or IntKind.u64 (leN (l.take k) : Int) (IntKind.u64.wrap (IntKind.u64.wrap (x.toNat : Int) * 2 ^ (8 * k))) = (leN (l.take (k + 1)) : Int) := by
 have hxl := x.toNat_lt;have e1 : l.take (k + 1) = l.take k ++ [x] := by rw [List.take_add_one, List.getElem?_eq_getElem h, hx]; rfl
 have hl : (l.take k).length = k := by rw [List.length_take]; omega
 have ha := J19 (l.take k);rw [hl, Jqn] at ha
 have hp : (2 : Nat) ^ (8 * k) * 256 <= 2 ^ 64 := by
  rw [show (256 : Nat) = 2 ^ 8 from rfl, <- Nat.pow_add];exact Nat.pow_le_pow_right (by decide) (by omega)
 have hb : x.toNat * 2 ^ (8 * k) < 2 ^ 64 := by
  have h1 : x.toNat * 2 ^ (8 * k) < 256 * 2 ^ (8 * k) := Nat.mul_lt_mul_of_pos_right hxl (Nat.pow_pos (by decide));omega
 have e2 : ((x.toNat : Int) * 2 ^ (8 * k)) = ((x.toNat * 2 ^ (8 * k) : Nat) : Int) := by push_cast; rfl
 rw [wraps_u64 (x.toNat : Int) (by omega) (by omega), e2, wraps_u64 _ (by omega) (by exact_mod_cast hb), (bits_nat .u64 64 (by decide) (fun n h0 h1 => wraps_u64 n h0 h1) _ _ (by omega) hb).2, e1];have h2 := J48 (l.take k) x;rw [hl] at h2;rw [h2]
theorem Jm2 (l : List UInt8) (w : World) (hl : l.length <= 8) :
  Calls Tryz.prog 193 #[.string (strOf l)] w fun e w' => e = .returned (.int .u64 (leN l : Int)) /\ Below w.heap.size w w' := by
 obtain ⟨c, w1, hcv, hb, hsz, hce⟩ := Jxb l w;have HB := zI hb;have HCE := zI hce;clear hb hce;go_enter Tryz.func193, Tryz.ntmps193;go_wp2_with fail
 go_loopw [3, 9] (fun x i wr => ∃ k : Nat, k <= l.length /\ i = .int .i64 (k : Int) /\ x = .int .u64 (leN (l.take k) : Int) /\ wr = w1) (fun _ i _ => l.length - (intOf i).toNat)
 case atStart => exact ⟨0, Nat.zero_le _, rfl, by simp [leN], rfl⟩
 case round =>
  obtain ⟨k, hk, rfl, rfl, rfl⟩ := hrel;by_cases hlt : k < l.length
  · have hc := HCE.out k hlt
    have HH := zI (Jxc hlt (by omega) rfl);generalize l[k] = x at *;go_wp2_with fail
    go_roundw
    case rel => exact ⟨k + 1, by omega, by go_num, by rw [HH.out], trivial⟩
    case measure => simp [intOf]; omega
  · have hke : l.length = k := by omega
    have HT := zI (show l.take k = l from by rw [<- hke, List.take_length]);rw [HT.out];clear HT;go_wp2_with fail
    go_ret;exact ⟨rfl, HB.out⟩
structure UnAt (w : World) (g : Nat) (l : List UInt8) : Prop where
 bx : Bx w g 304 #[.int .i64 0, .string (strOf l)]
theorem UnAt.below {w w' : World} {g : Nat} {l : List UInt8} (h : UnAt w g l) (hb : Below w.heap.size w w') : UnAt w' g l := ⟨h.bx.below hb⟩
theorem Jac (l : List UInt8) : (strOf l).size = l.length := by simp [strOf, ByteArray.size]
theorem Jbi {a b : ByteArray} (h : a.data.toList = b.data.toList) : a = b := by
 cases a; cases b
 simp at h;rw [h]
theorem Jd5 (a r : List UInt8) : (strOf (a ++ r)).extract 0 a.length = strOf a := by
 apply Jbi;simp [strOf, ByteArray.data_extract, List.extract]
theorem Jh1 (a r : List UInt8) : (strOf (a ++ r)).extract a.length (a.length + r.length) = strOf r := by
 apply Jbi;simp [strOf, ByteArray.data_extract, List.extract]
theorem Jfw {w w1 w' : World} {row : Option Nat} (h : w.grownBy w1 row) (hb : Below w1.heap.size w1 w') : w.grownBy w' row :=
 ⟨hb.os.trans h.os, hb.tape.trans h.tape, hb.output.trans h.output, Nat.le_trans h.size hb.size, fun k hk hn => (hb.block k (Nat.lt_of_lt_of_le hk h.size)).trans (h.block k hk hn)⟩
theorem Jhc {w w1 w' : World} {row : Option Nat} (h : w.grownBy w1 row) (k : w1.grownBy w' row) : w.grownBy w' row :=
 ⟨k.os.trans h.os, k.tape.trans h.tape, k.output.trans h.output, Nat.le_trans h.size k.size, fun i hi hn => (k.block i (Nat.lt_of_lt_of_le hi h.size) hn).trans (h.block i hi hn)⟩
theorem Jfh (g : Nat) (a r : List UInt8) (w : World) (h : UnAt w g (a ++ r)) (_hl : a.length + r.length <= 1000000) :
  Calls Tryz.prog 194 #[.pointer (some ⟨g, 0, none⟩), .int .i64 (a.length : Int)] w fun e w' => e = .returned (.string (strOf a)) /\ UnAt w' g r /\ w.grownBy w' (some g) := by
 have e0 := h.bx.at_ 0 (v := .int .i64 0) rfl;have e1 := h.bx.at_ 1 (v := .string (strOf (a ++ r))) rfl;have e2 := h.bx.free 1;have HB := zI h.bx;have hsz : (strOf (a ++ r)).size = a.length + r.length := by rw [Jac, List.length_append]
 clear h;go_enter Tryz.func194, Tryz.ntmps194;go_wp2_with fail
 go_ret;rw [Jd5, Jh1];exact ⟨rfl, ⟨HB.out.set 1 (.string (strOf r))⟩, Jai w g 1 _⟩
theorem Jhd (g v : Nat) (r : List UInt8) (w : World) (h : UnAt w g (le 8 v ++ r)) (hv : v < 18446744073709551616) (hl : r.length <= 900000) :
  Calls Tryz.prog 126 #[.pointer (some ⟨g, 0, none⟩)] w fun e w' => e = .returned (.int .u64 (v : Int)) /\ UnAt w' g r /\ w.grownBy w' (some g) := by
 have HT := zI (Jfh g (le 8 v) r w h (by rw [Jaz]; omega));rw [Jaz] at HT;have HH := zI (fun W => Jm2 (le 8 v) W (by rw [Jaz]; omega));rw [Jmz (show v < 256 ^ 8 from hv)] at HH;clear h;go_enter Tryz.func126, Tryz.ntmps126;go_wp2_with fail
 refine HT.out.mono ?_;rintro e w1 ⟨rfl, hu, hg⟩;go_wp2_with fail
 refine (HH.out w1).mono ?_;rintro e w2 ⟨rfl, hb⟩;go_wp2_with fail
 go_ret;exact ⟨rfl, hu.below hb, Jfw hg hb⟩
theorem J00 (v : Nat) (h : v < 18446744073709551616) : wrap64 (v : Int) = i64 v := by
 unfold i64 wrap64;split <;> omega
theorem Jjz (g : Nat) (n : Int) (r : List UInt8) (w : World) (h : UnAt w g (le 8 (u64 n) ++ r)) (hn : -9223372036854775808 <= n /\ n <= 9223372036854775807) (hl : r.length <= 900000) :
  Calls Tryz.prog 127 #[.pointer (some ⟨g, 0, none⟩)] w fun e w' => e = .returned (.int .i64 n) /\ UnAt w' g r /\ w.grownBy w' (some g) := by
 have HT := zI (Jhd g (u64 n) r w h (J2a n) hl);have HW := zI (show wrap64 ((u64 n : Nat) : Int) = n from by rw [J00 _ (J2a n), J3r hn]);clear h;generalize u64 n = v at *;go_enter Tryz.func127, Tryz.ntmps127;go_wp2_with fail
 refine HT.out.mono ?_;rintro e w1 ⟨rfl, hu, hg⟩;go_wp2_with fail
 go_ret;exact ⟨by rw [<- HW.out]; rfl, hu, hg⟩
theorem UnAt.e0 {w : World} {g : Nat} {l : List UInt8} (h : UnAt w g l) : w.cell? ⟨g, 0, none⟩ = some (.int .i64 0) /\ w.frozen? ⟨g, 0, none⟩ = false := ⟨h.bx.at_ 0 rfl, h.bx.free 0⟩
theorem J01 (g : Nat) (l : List UInt8) (w : World) (h : UnAt w g l) :
  Calls Tryz.prog 200 #[.pointer (some ⟨g, 0, none⟩), .int .i64 0] w fun e w' => e = .returned (.bool false) /\ UnAt w' g l /\ w.grownBy w' (some g) := by
 obtain ⟨e0, e1⟩ := h.e0;have h2 : UnAt (w.setCell ⟨g, 0, none⟩ (.int .i64 0)) g l := ⟨h.bx.set 0 (.int .i64 0)⟩;have e2 := h2.e0.1;have h3 : w.grownBy (w.setCell ⟨g, 0, none⟩ (.int .i64 0)) (some g) := Jai w g 0 _;clear h;go_enter Tryz.func200, Tryz.ntmps200;go_wp2;go_ret;exact ⟨rfl, h2, h3⟩
structure UnIn (w w' : World) (g : Nat) (l : List UInt8) : Prop where
 at_ : UnAt w' g l
 st : w.grownBy w' (some g)
theorem UnIn.drew {w w' : World} {g : Nat} {l : List UInt8} (h : UnIn w w' g l) : UnIn w w'.drew g l := ⟨h.at_.below (Below.refl _ _).drew, Jfw h.st (Below.refl _ _).drew⟩
theorem UnIn.next {w w1 w' : World} {g : Nat} {l l' : List UInt8} (h : UnIn w w1 g l) (h2 : UnAt w' g l') (h3 : w1.grownBy w' (some g)) : UnIn w w' g l' := ⟨h2, Jhc h.st h3⟩
theorem Jck (g size v : Nat) (r : List UInt8) (w : World) (h : UnAt w g (le size v ++ r)) (hs : Jds size) (hv : v < 256 ^ size) (hl : r.length <= 900000) :
  Calls Tryz.prog 131 #[.pointer (some ⟨g, 0, none⟩), .int .i64 (size : Int)] w fun e w' => e = .returned (.int .i64 (v : Int)) /\ UnAt w' g r /\ w.grownBy w' (some g) := by
 have HF0 := zI (fun W => Jqo size 0 W hs (Nat.pow_pos (by decide)));have HFL := zI (fun W hW => J01 g (le size v ++ r) W hW);have hs4 : size <= 4 := by rcases hs with rfl | rfl | rfl <;> omega
 have HT := zI (fun W hW => Jfh g (le size v) r W hW (by rw [Jaz]; omega));rw [Jaz] at HT;have HH := zI (fun W => Jm2 (le size v) W (by rw [Jaz]; omega));rw [Jmz hv] at HH;have hv32 := hs.lt hv;have HW := zI (show wrap64 (v : Int) = (v : Int) from by unfold wrap64; omega);have hin : UnIn w w g (le size v ++ r) := ⟨h, World.grownBy.refl _ _⟩;have hind := hin.drew;clear h hin;go_enter Tryz.func131, Tryz.ntmps131;go_upto_region 1 with fail
 go_region_held3 (fun w' => UnIn w w' g (le size v ++ r))
  (first
    | assumption
    | exact hind
    | exact UnIn.drew (by assumption))
  (first
    | (go_at_call 201; refine (HF0.out _).mono ?_; rintro e wf ⟨rfl, hwf⟩; subst hwf)
    | (go_at_call 200; refine (HFL.out _ (UnIn.at_ (by assumption))).mono ?_; rintro e wq ⟨rfl, hpq, hsq⟩; have hinq := UnIn.next (by assumption) hpq hsq))
 have HQ := zI hinq;clear hind hpq hsq;go_wp2_with fail
 refine (HT.out _ hinq.at_).mono ?_;rintro e w1 ⟨rfl, hu, hg⟩;go_wp2_with fail
 refine (HH.out w1).mono ?_;rintro e w2 ⟨rfl, hb⟩;go_wp2_with fail
 go_ret;exact ⟨by first | rfl | (rw [<- HW.out]; rfl) | (show Ending.returned (Value.int .i64 (wrap64 _)) = _; rw [HW.out]), hu.below hb, Jfw (Jhc HQ.out.st hg) hb⟩
theorem Jqp (g : Nat) (l : List UInt8) (w : World) (h : UnAt w g l) :
  Calls Tryz.prog 130 #[.pointer (some ⟨g, 0, none⟩)] w fun e w' => e = .returned (.int .i64 0) /\ w = w' := by
 obtain ⟨e0, _⟩ := h.e0;clear h;go_enter Tryz.func130, Tryz.ntmps130;go_wp2;go_ret;exact ⟨rfl, rfl⟩
theorem Jxd (g : Nat) (l : List UInt8) (w : World) (h : UnAt w g l) :
  Calls Tryz.prog 281 #[.pointer (some ⟨g, 0, none⟩)] w fun e w' => e = .returned (.int .i64 (l.length : Int)) /\ w = w' := by
 have e1 := h.bx.at_ 1 (v := .string (strOf l)) rfl;have hsz := Jac l;clear h;go_enter Tryz.func281, Tryz.ntmps281;go_wp2;go_ret;exact ⟨rfl, rfl⟩
theorem J02 (g : Nat) (l : List UInt8) (w : World) (h : UnAt w g l) (hl : l.length <= 900000) :
  Calls Tryz.prog 251 #[.pointer (some ⟨g, 0, none⟩)] w fun e w' => e = .returned (.string (strOf l)) /\ UnAt w' g [] /\ w.grownBy w' (some g) := by
 have HT := zI (Jfh g l [] w (by rw [List.append_nil]; exact h) (by simp; omega));have HL := zI (Jxd g l w h);clear h;go_enter Tryz.func251, Tryz.ntmps251;go_wp2_with fail
 refine HL.out.mono ?_;rintro e w1 ⟨rfl, hw⟩;subst hw;go_wp2_with fail
 refine HT.out.mono ?_;rintro e w2 ⟨rfl, hu, hg⟩;go_wp2_with fail
 go_ret;exact ⟨rfl, hu, hg⟩
end Go.Proofs.YtalkkhafcfhglaaGreatDoor
