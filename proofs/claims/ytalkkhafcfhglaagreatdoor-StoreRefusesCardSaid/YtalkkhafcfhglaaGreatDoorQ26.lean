/-
  Several texts in one: Unpt, Unpn, Unpm, Crc, Crco, Crcp, Dev, ShelfC, Devr.
-/
import Derived.Test.YtalkkhafcfhglaaGreatDoorQ25
import Derived.Test.YtalkkhafcfhglaaGreatDoorQ24
set_option maxRecDepth 100000
set_option maxHeartbeats 4000000
namespace Go.Proofs.YtalkkhafcfhglaaGreatDoor
open Go.RowKit
theorem wrap_i64 (n : Int) (h : -9223372036854775808 <= n /\ n <= 9223372036854775807) : IntKind.i64.wrap n = n := by
 simp [IntKind.wrap, IntKind.bits, IntKind.signed];split <;> omega
theorem Jo3 (g : Nat) (s r : List UInt8) (w : World) (h : UnAt w g (txB s ++ r)) (hs : s.length <= 60000) (hl : r.length <= 800000) :
  Calls Tryz.prog 129 #[.pointer (some ⟨g, 0, none⟩)] w fun e w' => e = .returned (.string (strOf s)) /\ UnAt w' g r /\ w.grownBy w' (some g) := by
 have hB := h.bx;have ha : txB s ++ r = le 2 s.length ++ (s ++ r) := by unfold txB; rw [List.append_assoc]
 rw [ha] at h hB;have hsz : (strOf (le 2 s.length ++ (s ++ r))).size = 2 + (s.length + r.length) := by rw [Jac, List.length_append, List.length_append, Jaz]
 have hx : (strOf (le 2 s.length ++ (s ++ r))).extract 0 2 = strOf (le 2 s.length) := by
  have := Jd5 (le 2 s.length) (s ++ r)
  rwa [Jaz] at this
 have HSM := zI (fun W hW => Jck g 2 s.length (s ++ r) W hW (.inr (.inl rfl)) (by omega) (by rw [List.length_append]; omega));have HT := zI (fun W hW => Jfh g s r W hW (by omega));have HH := zI (fun W => Jm2 (le 2 s.length) W (by rw [Jaz]; omega));rw [Jmz (show s.length < 256 ^ 2 by omega)] at HH;have HW := zI (show wrap64 (s.length : Int) = (s.length : Int) from by unfold wrap64; omega);have e0 := hB.at_ 0 (v := .int .i64 0) rfl;have HB := zI hB;have HU := zI h;generalize strOf (le 2 s.length ++ (s ++ r)) = S at *;have HC := zI (show ∀ w', Below w.heap.size w w' -> w'.cell? ⟨g, 1, none⟩ = some (.string S) from fun w' hb => (HB.out.below hb).at_ 1 rfl);have hbD := (Below.refl w.heap.size w).drew;have HK0 := And.intro hbD (HC.out _ hbD);obtain ⟨N, hN⟩ : ∃ N, N = 2 + (s.length + r.length) := ⟨_, rfl⟩;rw [<- hN] at hsz;have hd1 : decide ((N : Int) < 2) = false := decide_eq_false (by omega);have HD3 := zI (show decide (IntKind.i64.wrap ((N : Int) - 2) < IntKind.i64.wrap (s.length : Int)) = false from decide_eq_false (by rw [wrap_i64 _ (by omega), wrap_i64 _ (by omega)]; omega));have hd2 : decide ((N : Int) - 2 < (s.length : Int)) = false := decide_eq_false (by omega);have hw64 := HW.out;have hN2 : 2 <= N := by omega
 have hN3 : (2 : Int) <= (N : Int) := by omega
 clear h hB ha hN;go_enter Tryz.func129, Tryz.ntmps129;go_upto_region 3 with fail
 go_region_held3 (fun w' => Below w.heap.size w w' /\ w'.cell? ⟨g, 1, none⟩ = some (.string S))
  (first
    | assumption
    | exact HK0
    | (go_split_ands; exact And.intro (by assumption) (HC.out _ (by assumption)))
    | (go_split_ands; exact And.intro (Below.trans (by assumption) (Below.mono hb7 (Below.size (by assumption)))) (HC.out _ (Below.trans (by assumption) (Below.mono hb7 (Below.size (by assumption)))))))
  (first
    | (go_at_call 193; go_split_ands; refine (HH.out _).mono ?_; rintro e w7 ⟨rfl, hb7⟩))
 rw [HD3.out];go_split_ands;have hb9 : Below w.heap.size w w7 := by assumption
 have HU7 := zI (HU.out.below hb9);have HSM7 := zI (HSM.out w7 HU7.out);have HB9 := zI hb9;go_wp2_with fail
 refine HSM7.out.mono ?_;rintro e w8 ⟨rfl, hu8, hg8⟩;have HT8 := zI (HT.out w8 hu8);have HG8 := zI hg8;clear hu8 hg8;go_wp2_with fail
 refine HT8.out.mono ?_;rintro e w9 ⟨rfl, hu9, hg9⟩;go_wp2_with fail
 go_ret;exact ⟨rfl, hu9, Jhc (Jrq HB9.out (some g)) (Jhc HG8.out hg9)⟩
theorem Jci (s : ByteArray) (w : World) (hs : s.size <= 1000000) : Calls Tryz.prog 39 #[.string s] w fun e w' => e = .returned (.string s) /\ Below w.heap.size w w' := by
 have H := zI (Tryz.stringslite_Clone s w (by omega));go_enter Tryz.func39, Tryz.ntmps39;go_wp2_with fail
 refine H.out.mono ?_;rintro e w1 ⟨rfl, hb⟩;go_wp2_with fail
 go_ret;exact ⟨rfl, hb⟩
theorem Jo4 (l : List UInt8) (w : World) (hl : l.length <= 900000) : Calls Tryz.prog 125 #[.string (strOf l)] w fun e w' => ∃ g, e = .returned (.pointer (some ⟨g, 0, none⟩)) /\ w.heap.size <= g /\ UnAt w' g l /\ Below w.heap.size w w' := by
 have H := zI (Jci (strOf l) w (by rw [Jac]; omega));go_enter Tryz.func125, Tryz.ntmps125;go_wp2_with fail
 refine H.out.mono ?_;rintro e w1 ⟨rfl, hb⟩;have hal := hb.alloc hb.size (.cells #[.int .i64 0, .string (strOf l)] 304);have hx := Bx.new w1 304 #[.int .i64 0, .string (strOf l)];have hsz := hb.size;go_wp2_with fail
 go_ret;exact ⟨w1.heap.size, rfl, hsz, ⟨hx⟩, hal⟩
theorem Jt4 (k : Nat) : Lib.trimB (strOf (zeros k)).data.toList 0 = [] := by
 have h1 : Lib.trimLeftB (zeros k) 0 = [] := by unfold Lib.trimLeftB zeros; simp
 have h2 : Lib.trimRightB (zeros k) 0 = [] := by unfold Lib.trimRightB zeros; simp
 show Lib.trimLeftB (Lib.trimRightB (zeros k) 0) 0 = [];rw [h2];rfl
theorem J3v (s : List UInt8) (hs : s.length <= 15) (hp : 0 < (strOf (nmB s)).size) : wrap64 (((strOf (nmB s))[0]'hp).toNat : Int) = (s.length : Int) := by
 have : (strOf (nmB s))[0]'hp = UInt8.ofNat s.length := rfl;rw [this, Jw6];unfold wrap64;omega
theorem J3w (s : List UInt8) : (strOf (nmB s)).extract 1 (1 + s.length) = strOf s := by
 apply Jbi;simp [strOf, nmB, ByteArray.data_extract, List.extract]
theorem J3x (s : List UInt8) (hs : s.length <= 15) : (strOf (nmB s)).extract (1 + s.length) 16 = strOf (zeros (15 - s.length)) := by
 apply Jbi
 have h : (nmB s).drop (1 + s.length) = zeros (15 - s.length) := by
  unfold nmB;rw [Nat.add_comm, List.drop_succ_cons, List.drop_left]
 simp [strOf, ByteArray.data_extract, List.extract, h];simp [zeros];omega
theorem Jxe (g : Nat) (s r : List UInt8) (w : World) (h : UnAt w g (nmB s ++ r)) (hs : s.length <= 15) (hl : r.length <= 800000) :
  Calls Tryz.prog 249 #[.pointer (some ⟨g, 0, none⟩)] w fun e w' => e = .returned (.string (strOf s)) /\ UnAt w' g r /\ w.grownBy w' (some g) := by
 have HT := zI (Jfh g (nmB s) r w h (by rw [Jh0 hs]; omega));rw [Jh0 hs] at HT;have hsz : (strOf (nmB s)).size = 16 := by rw [Jac, Jh0 hs]
 have h0 := J3v s hs;have hx1 := J3w s;have hx2 := J3x s hs;have HTR := zI (fun W => Tryz.strings_Trim_one (strOf (zeros (15 - s.length))) 0 (by decide) W (by rw [Jac, Jdj]; omega));rw [Jt4] at HTR;have hne : (strOf (nmB s)).toList.isEmpty = false := by rw [ByteArray.toList_eq]; rfl
 generalize hn : s.length = n at *;generalize strOf (zeros (15 - n)) = Z at *;generalize strOf s = R at *;have hw2 : wrap64 (1 + (n : Int)) = 1 + (n : Int) := by unfold wrap64; omega
 have hd : decide ((15 : Int) < (n : Int)) = false := decide_eq_false (by omega);have hb1 : (1 + (n : Int)).toNat = 1 + n := by omega
 have hb2 : 1 + n <= 16 := by omega
 have hb3 : (0 : Int) <= 1 + (n : Int) := by omega
 have hb4 : 1 + (n : Int) <= 16 := by omega
 have hb5 : (1 : Int) <= 1 + (n : Int) := by omega
 clear h;go_enter Tryz.func249, Tryz.ntmps249;go_wp2_with fail
 refine HT.out.mono ?_;rintro e w1 ⟨rfl, hu, hg⟩;generalize strOf (nmB s) = S at *;have HU := zI hu;have HG := zI hg;clear hu hg HT;go_wp2_with fail
 refine (HTR.out w1).mono ?_;rintro e w2 ⟨rfl, hw⟩
 have hb : Below w1.heap.size w1 w2 := by
  rcases hw with rfl | rfl
  · exact Below.refl _ _
  · exact (Below.refl _ _).drew
 clear hw;go_wp2_with fail
 go_ret;exact ⟨rfl, HU.out.below hb, Jfw HG.out hb⟩
def Jsc (x : Int) : Int := if bits BinOp.and IntKind.u32 x 1 = 1 then bits BinOp.xor IntKind.u32 (x / 2) 3945912366 else x / 2
def Jgn : Nat -> Int -> Int
 | 0, x => x
 | n + 1, x => Jsc (Jgn n x)
def Jm3 (x : Int) (c : UInt8) : Int := Jgn 8 (bits BinOp.xor IntKind.u32 x ((c.toNat : Int) % 4294967296))
def Jbg (x : Int) (l : List UInt8) : Int := l.foldl Jm3 x
def Jew (l : List UInt8) : Int := bits BinOp.xor IntKind.u32 (Jbg (bits BinOp.xor IntKind.u32 0 4294967295) l) 4294967295
theorem Jo5 (x : Int) (l : List UInt8) (c : UInt8) : Jbg x (l ++ [c]) = Jm3 (Jbg x l) c := by simp [Jbg]
theorem Jt5 (g : Nat) (A : Option Addr) (c : Nat) (l : List UInt8) (w : World) (h : Bx w g 340 #[.int .u32 0]) (hA : Sl w A [.string (strOf l)]) (hl : l.length <= 1000000) :
  Calls Tryz.prog 241 #[.pointer (some ⟨g, 0, none⟩), .slice A 1 c] w fun e w' => e = .returned (.tuple #[]) /\ Bx w' g 340 #[.int .u32 (Jew l)] /\ w.grownBy w' (some g) := by
 have e0 := h.at_ 0 (v := .int .u32 0) rfl;have e1 := h.free 0;have HB := zI h;obtain ⟨b, off, rfl, _, hc⟩ := hA.get (j := 0) (by simp);have hc' : w.cell? ⟨b, off, none⟩ = some (.string (strOf l)) := by simpa using hc
 have hsz := Jac l;obtain ⟨x0, hx0⟩ : ∃ x0, x0 = bits BinOp.xor IntKind.u32 0 4294967295 := ⟨_, rfl⟩;have HX0 := zI hx0;have hx0' := hx0.symm;clear h hA hc hx0;go_enter Tryz.func241, Tryz.ntmps241;go_wp2_with fail
 go_loopw [4, 18] (fun x i wr => wr = w /\ (i = .int .i64 0 /\ x = .int .u32 x0 \/ i = .int .i64 1 /\ x = .int .u32 (Jbg x0 l))) (fun _ i _ => 1 - (intOf i).toNat)
 case atStart => first | exact ⟨rfl, .inl ⟨rfl, rfl⟩⟩ | exact ⟨rfl, .inl ⟨rfl, by rw [HX0.out]; rfl⟩⟩
 case round =>
  obtain ⟨rfl, ⟨rfl, rfl⟩ | ⟨rfl, rfl⟩⟩ := hrel
  · go_wp2_with fail
    go_loopw [4, 24] (fun x i wr2 => wr2 = wr /\ ∃ k : Nat, k <= l.length /\ i = .int .i64 (k : Int) /\ x = .int .u32 (Jbg x0 (l.take k))) (fun _ i _ => l.length - (intOf i).toNat)
    case atStart => exact ⟨rfl, 0, Nat.zero_le _, rfl, rfl⟩
    case round =>
     obtain ⟨rfl, k, hk, rfl, rfl⟩ := hrel;by_cases hlt : k < l.length
     · have HS := zI (show Jbg x0 (l.take (k + 1)) = Jm3 (Jbg x0 (l.take k)) l[k] from by
        have e : l.take (k + 1) = l.take k ++ [l[k]] := by rw [List.take_add_one, List.getElem?_eq_getElem hlt]; rfl
        rw [e, Jo5])
       have hkS : k < (strOf l).size := by rw [Jac]; exact hlt
       have hSk : (strOf l)[k]'hkS = l[k] := rfl;generalize Jbg x0 (l.take k) = y at *;generalize l[k] = cb at *;go_wp2_with fail
       obtain ⟨y0, hy0⟩ : ∃ y0, y0 = bits BinOp.xor IntKind.u32 y ((cb.toNat : Int) % 4294967296) := ⟨_, rfl⟩;have HS2 := zI (show Jm3 y cb = Jgn 8 y0 from by rw [hy0]; rfl);rw [<- hy0];clear hy0;go_loopw [4, 33] (fun x i wr3 => wr3 = wr /\ ∃ t : Nat, t <= 8 /\ i = .int .i64 (t : Int) /\ x = .int .u32 (Jgn t y0)) (fun _ i _ => 8 - (intOf i).toNat)
       case atStart => exact ⟨rfl, 0, by omega, rfl, rfl⟩
       case round =>
        obtain ⟨rfl, t, ht, rfl, rfl⟩ := hrel;by_cases ht8 : t < 8
        · have HZ := zI (show Jgn (t + 1) y0 = Jsc (Jgn t y0) from rfl)
          generalize Jgn t y0 = z at *;by_cases hodd : bits BinOp.and IntKind.u32 z 1 = 1
          · have HO := zI (show Jsc z = bits BinOp.xor IntKind.u32 (z / 2) 3945912366 from if_pos hodd)
            go_wp2_with fail
            go_roundw
            case rel => exact ⟨by trivial, t + 1, by omega, by go_num, by rw [HZ.out, HO.out]⟩
            case measure => simp [intOf]; omega
          · have HO := zI (show Jsc z = z / 2 from if_neg hodd)
            go_wp2_with fail
            go_roundw
            case rel => exact ⟨by trivial, t + 1, by omega, by go_num, by rw [HZ.out, HO.out]⟩
            case measure => simp [intOf]; omega
        · have hte : t = 8 := by omega
          subst hte;rw [<- HS2.out, <- HS.out];go_wp2_with fail
          go_roundw
          case rel => exact ⟨by trivial, k + 1, by omega, by go_num, rfl⟩
          case measure => simp [intOf]; omega
     · have hke : l.length = k := by omega
       have HT := zI (show l.take k = l from by rw [<- hke, List.take_length]);rw [HT.out];clear HT;go_wp2_with fail
       go_roundw
       case rel => exact ⟨by trivial, .inr ⟨rfl, rfl⟩⟩
       case measure => simp [intOf]
  · have HF := zI (show Jew l = bits BinOp.xor IntKind.u32 (Jbg x0 l) 4294967295 from by rw [HX0.out]; rfl)
    generalize Jbg x0 l = y at *;have bx := HB.out.set 0 (.int .u32 (bits BinOp.xor IntKind.u32 y 4294967295));have hg := Jai wr g 0 (.int .u32 (bits BinOp.xor IntKind.u32 y 4294967295));go_wp2_with fail
    go_end0
    rw [HF.out];exact ⟨rfl, bx, hg⟩
theorem J03 (op : BinOp) (a b : Int) : 0 <= bits op IntKind.u32 a b /\ bits op IntKind.u32 a b < 4294967296 := by
 obtain ⟨n, h⟩ : ∃ n, bits op IntKind.u32 a b = IntKind.u32.wrap n := ⟨_, rfl⟩;rw [h, IntKind.wrap_u32];omega
theorem J2b (l : List UInt8) : 0 <= Jew l /\ Jew l < 4294967296 := J03 _ _ _
def crcB (l : List UInt8) : List UInt8 := le 4 (Jew l).toNat
@[simp] theorem J5k (l : List UInt8) : (crcB l).length = 4 := Jaz _ _
theorem Jt6 (g : Nat) (x : Int) (w : World) (h : Bx w g 340 #[.int .u32 x]) :
  Calls Tryz.prog 242 #[.pointer (some ⟨g, 0, none⟩)] w fun e w' => e = .returned (.int .u32 x) /\ w = w' := by
 have e0 := h.at_ 0 (v := .int .u32 x) rfl;clear h;go_enter Tryz.func242, Tryz.ntmps242;go_wp2_with fail
 go_ret;exact ⟨rfl, rfl⟩
theorem Jo6 (A : Option Addr) (c : Nat) (l : List UInt8) (w : World) (hA : Sl w A [.string (strOf l)]) (hl : l.length <= 1000000) :
  Calls Tryz.prog 192 #[.slice A 1 c] w fun e w' => e = .returned (.int .u32 (Jew l)) /\ Below w.heap.size w w' := by
 have hba := (Below.refl w.heap.size w).alloc (Nat.le_refl _) (.cells #[.int .u32 0] 340);have HBA := zI hba;have HAD := zI (Jt5 w.heap.size A c l _ (Bx.new w 340 #[.int .u32 0]) (hA.below hba) hl);clear hA hba;go_enter Tryz.func192, Tryz.ntmps192;go_wp2_with fail
 refine HAD.out.mono ?_;rintro e w1 ⟨rfl, hx, hg⟩;have HV := zI (Jt6 _ _ w1 hx);have HG := zI hg;clear hx hg;go_wp2_with fail
 refine HV.out.mono ?_;rintro e w2 ⟨rfl, hw⟩;subst hw;go_wp2_with fail
 go_ret;exact ⟨rfl, HBA.out.grown HG.out HBA.out.size (fun k e => by cases e; exact Nat.le_refl _)⟩
theorem Jsd (x : Nat) (w : World) (hx : x < 4294967296) :
  Calls Tryz.prog 191 #[.int .u32 (x : Int)] w fun e w' => e = .returned (.string (strOf (le 4 x))) /\ Below w.heap.size w w' := by
 have hba := (Below.refl w.heap.size w).alloc (Nat.le_refl _) (.cells #[.int .i64 0, .slice none 0 0] 307);have P0 := PkAt.new w w.heap.size (Nat.le_refl _);obtain ⟨w1, hw1⟩ : ∃ w1, w1 = w.alloc (.cells #[.int .i64 0, .slice none 0 0] 307) := ⟨_, rfl⟩;have hs1 : w1.heap.size = w.heap.size + 1 := by rw [hw1]; simp
 have HW1 := zI hw1;rw [<- hw1] at hba P0;have hbb := (Below.refl w1.heap.size w1).alloc (Nat.le_refl _) (.cells #[.int .i64 (x : Int)] 3);have HSM := zI (Jfg w.heap.size w.heap.size 4 (some ⟨w1.heap.size, 0, none⟩) 1 1 [x] [] (w1.alloc (.cells #[.int .i64 (x : Int)] 3)) (P0.below hbb) (.inr (.inr rfl)) (fun v hv => by rw [List.mem_singleton.1 hv]; exact hx) (Jgm.new _ (by decide) (by omega)) (Sl.new w1 3 w1.heap.size [.int .i64 (x : Int)] #[.int .i64 (x : Int)] rfl rfl) rfl (by simp) (Nat.le_trans hba.size hbb.size));have HBB := zI (hba.trans (hbb.mono hba.size));have hwx : wrap64 (x : Int) = (x : Int) := by unfold wrap64; omega
 clear P0 hba hbb hw1;go_enter Tryz.func191, Tryz.ntmps191;go_wp2_with fail
 rw [<- HW1.out, <- hs1];refine HSM.out.mono ?_;rintro e w2 ⟨rfl, hP, hst⟩;have HD := zI (Jm1 _ _ _ w2 hP);have HST := zI (hst.below (B' := w.heap.size) (Nat.le_refl _) (Nat.le_refl _) (by simp; omega));have HLE := zI (show [] ++ [x].flatMap (le 4) = le 4 x from by simp);rw [HLE.out] at HD;clear hP hst HSM;go_wp2_with fail
 refine HD.out.mono ?_;rintro e w3 ⟨rfl, hw⟩;subst hw;go_wp2_with fail
 go_ret;exact ⟨rfl, HBB.out.trans HST.out⟩
theorem Jt7 (l : List UInt8) (w : World) (hl : l.length <= 1000000) :
  Calls Tryz.prog 199 #[.string (strOf l)] w fun e w' => e = .returned (.string (strOf (l ++ crcB l))) /\ Below w.heap.size w w' := by
 have hba := (Below.refl w.heap.size w).alloc (Nat.le_refl _) (.cells #[.string (strOf l)] 9);have HBA := zI hba;have HOF := zI (Jo6 (some ⟨w.heap.size, 0, none⟩) 1 l _ (Sl.new w 9 w.heap.size [.string (strOf l)] #[.string (strOf l)] rfl rfl) hl);have hcb := J2b l;have HX := zI (show Jew l = ((Jew l).toNat : Int) from by omega);have HF := zI (fun W => Jsd (Jew l).toNat W (by omega));rw [<- HX.out] at HF;have hs : (strOf l).size + (strOf (le 4 (Jew l).toNat)).size <= 9223372036854775807 := by rw [Jac, Jac, Jaz]; omega
 have HAP := zI (show strOf l ++ strOf (le 4 (Jew l).toNat) = strOf (l ++ crcB l) from by apply Jbi; simp [strOf, crcB]);clear hba hcb;go_enter Tryz.func199, Tryz.ntmps199;go_wp2_with fail
 refine HOF.out.mono ?_;rintro e w2 ⟨rfl, hb2⟩;go_wp2_with fail
 refine (HF.out w2).mono ?_;rintro e w3 ⟨rfl, hb3⟩;have HB3 := zI (HBA.out.trans ((hb2.trans (hb3.mono hb2.size)).mono HBA.out.size));clear hb2 hb3;go_wp2_with fail
 go_ret;exact ⟨by rw [<- HAP.out]; rfl, HB3.out⟩
noncomputable def Jxf (l t : List UInt8) : Value := if t = crcB l then .tuple #[.string (strOf l), .int .i64 0] else .tuple #[.string ByteArray.empty, .int .i64 7]
theorem Jlg (l : List UInt8) : (strOf l).toList = l := by rw [ByteArray.toList_eq]; rfl
theorem Jo7 (l t : List UInt8) (w : World) (ht : t.length = 4) (hl : l.length <= 900000) :
  Calls Tryz.prog 124 #[.string (strOf (l ++ t))] w fun e w' => e = .returned (Jxf l t) /\ Below w.heap.size w w' := by
 have hsz : (strOf (l ++ t)).size = l.length + 4 := by rw [Jac, List.length_append, ht]
 have hx1 : (strOf (l ++ t)).extract 0 l.length = strOf l := Jd5 l t;have hx2 : (strOf (l ++ t)).extract l.length (l.length + 4) = strOf t := by rw [<- ht]; exact Jh1 l t
 have hcb := J2b l;have HX := zI (show Jew l = ((Jew l).toNat : Int) from by omega);have HF := zI (fun W => Jsd (Jew l).toNat W (by omega));rw [<- HX.out] at HF;have HOF := zI (fun W A hA => Jo6 A 1 l W hA (by omega));have HCL := zI (fun W => Jci (strOf l) W (by rw [Jac]; omega));generalize strOf (l ++ t) = S at *;obtain ⟨n, hn⟩ : ∃ n, n = l.length := ⟨_, rfl⟩;rw [<- hn] at hsz hx1 hx2 hl;have hsub : ((n : Int) + 4 - 4) = (n : Int) := by omega
 have hd : decide ((n : Int) < 0) = false := decide_eq_false (by omega);have hn1 : n <= n + 4 := by omega
 have hn2 : (n : Int) <= (n : Int) + 4 := by omega
 have hbD := (Below.refl w.heap.size w).drew;have HSL0 := zI ((Sl.new w 9 w.heap.size [.string (strOf l)] #[.string (strOf l)] rfl rfl).below (Below.refl _ _).drew);have HX1 := zI hx1;clear hn hcb HX;go_enter Tryz.func124, Tryz.ntmps124;go_upto_region 4 with fail
 go_region_held3 (fun w' => Below w.heap.size w w')
  (first
    | assumption
    | exact hbD
    | exact Below.drew (by assumption)
    | exact Below.alloc (by assumption) (Below.size (by assumption)) _
    | exact Below.trans (by assumption) (Below.mono hb7 (Below.size (by assumption)))
    | exact Below.trans (by assumption) (Below.mono hb8 (Below.size (by assumption))))
  (first
    | (go_at_call 192; refine (HOF.out _ _ HSL0.out).mono ?_; rintro e w7 ⟨rfl, hb7⟩)
    | (go_at_call 191; refine (HF.out _).mono ?_; rintro e w8 ⟨rfl, hb8⟩))
 have hb9 : Below w.heap.size w w8 := by assumption
 have HB9 := zI hb9;have HCL9 := zI (HCL.out w8);clear hb9 hb7 hb8 hx1 hx2;by_cases e : t = crcB l
 · have HQ := zI (show ((strOf t).toList == (strOf (le 4 (Jew l).toNat)).toList) = true from by rw [e]; exact beq_self_eq_true _)
   have HO := zI (show Jxf l t = .tuple #[.string (strOf l), .int .i64 0] from if_pos e);have hx1 : S.extract 0 n = strOf l := HX1.out;rw [HQ.out];go_wp2_with fail
   refine HCL9.out.mono ?_;rintro e w9 ⟨rfl, hb9⟩;go_wp2_with fail
   go_ret2;exact ⟨by rw [HO.out]; rfl, HB9.out.trans (hb9.mono HB9.out.size)⟩
 · have HQ := zI (show ((strOf t).toList == (strOf (le 4 (Jew l).toNat)).toList) = false from by
    rw [beq_eq_false_iff_ne];intro h;exact e (by rw [Jlg, Jlg] at h; exact h))
   have HO := zI (show Jxf l t = .tuple #[.string ByteArray.empty, .int .i64 7] from if_neg e);rw [HQ.out];go_wp2_with fail
   go_ret2;exact ⟨by rw [HO.out]; rfl, HB9.out⟩
def Jen (x : Int × ByteArray) : List Value := [.int .i64 x.1, .string x.2]
structure Jbe (w : World) (B g mn ml N n : Nat) (f fl : Int -> Option ByteArray) (ws : List (Int × ByteArray)) (vW : Value) : Prop where
 ex : ∃ wr left kA kn kc, Bx w g 81 #[.bool true, .int .i64 wr, .bool false, .int .i64 left, .slice kA kn kc, .int .i64 (N : Int), .map (some mn), .map (some ml), vW]
 row : w.ownsRow B 102 2 vW ws.length (ws.flatMap Jen)
 now : SMap w mn n f
 lasts : SMap w ml n fl
 ne : mn ≠ ml
 size : 1 <= N /\ N <= 4096
def dkF (g mn ml : Nat) (vW : Value) (b : Nat) : Prop := b = g \/ b = mn \/ b = ml \/ vW.ownBlock = some b
section
variable {w w' : World} {B g mn ml N n : Nat} {f fl : Int -> Option ByteArray} {ws : List (Int × ByteArray)} {vW : Value}
theorem Jbe.keep (h : Jbe w B g mn ml N n f fl ws vW) (hk : ∀ b, b < w.heap.size -> dkF g mn ml vW b -> w'.heap[b]? = w.heap[b]?) : Jbe w' B g mn ml N n f fl ws vW := by
 obtain ⟨wr, left, kA, kn, kc, hb⟩ := h.ex;refine ⟨⟨wr, left, kA, kn, kc, ⟨(hk g hb.lt (.inl rfl)).trans hb.blk⟩⟩, ⟨h.row.1, ?_⟩, h.now.keep (hk mn h.now.lt (.inr (.inl rfl))), h.lasts.keep (hk ml h.lasts.lt (.inr (.inr (.inl rfl)))), h.ne, h.size⟩;rcases h.row.2 with hz | ⟨g', cap, cur, rfl, hb', hg, rest⟩
 · exact .inl hz
 · exact .inr ⟨g', cap, cur, rfl, hb', (hk g' (lt_of_block hg) (.inr (.inr (.inr rfl)))).trans hg, rest⟩
theorem Jbe.below (h : Jbe w B g mn ml N n f fl ws vW) (hb : Below w.heap.size w w') : Jbe w' B g mn ml N n f fl ws vW := h.keep fun b hlt _ => hb.block b hlt
theorem Jbe.chg {F : Nat -> Prop} (h : Jbe w B g mn ml N n f fl ws vW) (hc : Chg F w w') (hF : ∀ b, dkF g mn ml vW b -> ¬ F b) : Jbe w' B g mn ml N n f fl ws vW := h.keep fun b hlt hd => hc.block b hlt (hF b hd)
end
theorem Jm4 {B g mn ml N n : Nat} {f fl : Int -> Option ByteArray} {ws : List (Int × ByteArray)} {vW : Value} (w : World) (h : Jbe w B g mn ml N n f fl ws vW) :
  Calls Tryz.prog 36 #[.pointer (some ⟨g, 0, none⟩)] w fun e w' => e = .returned (.bool false) /\ w = w' := by
 obtain ⟨wr, left, kA, kn, kc, hb⟩ := h.ex;have e0 := hb.at_ 0 (v := .bool true) rfl;clear h hb;go_enter Tryz.func36, Tryz.ntmps36;go_wp2;go_ret;exact ⟨rfl, rfl⟩
theorem Jt8 {B g mn ml N n : Nat} {f fl : Int -> Option ByteArray} {ws : List (Int × ByteArray)} {vW : Value} (w : World) (h : Jbe w B g mn ml N n f fl ws vW) :
  Calls Tryz.prog 27 #[.pointer (some ⟨g, 0, none⟩)] w fun e w' => e = .returned (.int .i64 (N : Int)) /\ w = w' := by
 obtain ⟨wr, left, kA, kn, kc, hb⟩ := h.ex;have e0 := hb.at_ 5 (v := .int .i64 (N : Int)) rfl;clear h hb;go_enter Tryz.func27, Tryz.ntmps27;go_wp2;go_ret;exact ⟨rfl, rfl⟩
theorem Jse {B g mn ml N n : Nat} {f fl : Int -> Option ByteArray} {ws : List (Int × ByteArray)} {vW : Value} (w : World) (h : Jbe w B g mn ml N n f fl ws vW) :
  Calls Tryz.prog 37 #[.pointer (some ⟨g, 0, none⟩)] w fun e w' => e = .returned (.bool false) /\ Jbe w' B g mn ml N n f fl ws vW /\ w.grownBy w' (some g) := by
 obtain ⟨wr, left, kA, kn, kc, hb⟩ := h.ex;have e1 := hb.at_ 1 (v := .int .i64 wr) rfl;have e2 := hb.at_ 2 (v := .bool false) rfl;have f1 := hb.free 1;have HB := zI hb;have HD := zI h;clear h hb;go_enter Tryz.func37, Tryz.ntmps37;go_wp2;go_ret;have hg := Jai w g 1 (.int .i64 (wrap64 (wr + 1)));refine ⟨rfl, ⟨⟨wrap64 (wr + 1), left, kA, kn, kc, HB.out.set 1 _⟩, HD.out.row.kept hg (.inr fun e => HB.out.not_row HD.out.row (by decide) e.symm), HD.out.now.grown hg ?_, HD.out.lasts.grown hg ?_, HD.out.ne, HD.out.size⟩, hg⟩
 · intro e
   cases e
   exact HD.out.now.nocells _ _ _ HB.out.blk
 · intro e
   cases e
   exact HD.out.lasts.nocells _ _ _ HB.out.blk
end Go.Proofs.YtalkkhafcfhglaaGreatDoor
namespace Go.Proofs
open Go.Shelf
def Tryz.lays105_ren : Go.Shelf.Ren := ⟨fun | 105 => 60 | 212 => 118 | 99 => 119 | 165 => 120 | 166 => 121 | 170 => 122 | 169 => 123 | 263 => 186 | 264 => 187 | 206 => 188 | 240 => 189 | 241 => 190 | 276 => 239 | 277 => 240 | n => n, fun | 9 => 9 | 3 => 3 | 4 => 4 | 20 => 20 | 0 => 0 | 46 => 219 | 109 => 220 | 5 => 5 | 72 => 226 | 76 => 230 | 51 => 294 | 146 => 295 | 53 => 43 | 148 => 297 | 70 => 223 | 37 => 224 | 75 => 229 | 127 => 258 | 164 => 336 | 80 => 232 | n => n, fun | n => n⟩
theorem Tryz.lays105 : Go.Proofs.Lays.n105 Tryz.prog Tryz.lays105_ren := {
 mixed := by kernel_rfl
 f99 := Tryz.func119.trans (congrArg some (by kernel_rfl))
 f105 := Tryz.func60.trans (congrArg some (by kernel_rfl))
 f165 := Tryz.func120.trans (congrArg some (by kernel_rfl))
 f166 := Tryz.func121.trans (congrArg some (by kernel_rfl))
 f169 := Tryz.func123.trans (congrArg some (by kernel_rfl))
 f170 := Tryz.func122.trans (congrArg some (by kernel_rfl))
 f206 := Tryz.func188.trans (congrArg some (by kernel_rfl))
 f212 := Tryz.func118.trans (congrArg some (by kernel_rfl))
 f240 := Tryz.func189.trans (congrArg some (by kernel_rfl))
 f241 := Tryz.func190.trans (congrArg some (by kernel_rfl))
 f263 := Tryz.func186.trans (congrArg some (by kernel_rfl))
 f264 := Tryz.func187.trans (congrArg some (by kernel_rfl))
 f276 := Tryz.func239.trans (congrArg some (by kernel_rfl))
 f277 := Tryz.func240.trans (congrArg some (by kernel_rfl))
 t0 := Tryz.underlying0
 a0 := Tryz.isAgg0
 z0 := Tryz.sizeOf0
 v0 := Tryz.zeroValue0
 t3 := Tryz.underlying3
 a3 := Tryz.isAgg3
 z3 := Tryz.sizeOf3
 v3 := Tryz.zeroValue3
 t4 := Tryz.underlying4
 a4 := Tryz.isAgg4
 z4 := Tryz.sizeOf4
 v4 := Tryz.zeroValue4
 t5 := Tryz.underlying5
 a5 := Tryz.isAgg5
 z5 := Tryz.sizeOf5
 v5 := Tryz.zeroValue5
 t9 := Tryz.underlying9
 a9 := Tryz.isAgg9
 z9 := Tryz.sizeOf9
 v9 := Tryz.zeroValue9
 t20 := Tryz.underlying20
 a20 := Tryz.isAgg20
 z20 := Tryz.sizeOf20
 v20 := Tryz.zeroValue20
 t37 := Tryz.underlying224
 a37 := Tryz.isAgg224
 z37 := Tryz.sizeOf224
 v37 := Tryz.zeroValue224
 t46 := Tryz.underlying219
 a46 := Tryz.isAgg219
 z46 := Tryz.sizeOf219
 v46 := Tryz.zeroValue219
 t51 := Tryz.underlying294
 a51 := Tryz.isAgg294
 z51 := Tryz.sizeOf294
 v51 := Tryz.zeroValue294
 t53 := Tryz.underlying43
 a53 := Tryz.isAgg43
 z53 := Tryz.sizeOf43
 v53 := Tryz.zeroValue43
 t70 := Tryz.underlying223
 a70 := Tryz.isAgg223
 z70 := Tryz.sizeOf223
 v70 := Tryz.zeroValue223
 t72 := Tryz.underlying226
 a72 := Tryz.isAgg226
 z72 := Tryz.sizeOf226
 v72 := Tryz.zeroValue226
 t75 := Tryz.underlying229
 a75 := Tryz.isAgg229
 z75 := Tryz.sizeOf229
 v75 := Tryz.zeroValue229
 t76 := Tryz.underlying230
 a76 := Tryz.isAgg230
 z76 := Tryz.sizeOf230
 v76 := Tryz.zeroValue230
 t109 := Tryz.underlying220
 a109 := Tryz.isAgg220
 z109 := Tryz.sizeOf220
 v109 := Tryz.zeroValue220
 t127 := Tryz.underlying258
 a127 := Tryz.isAgg258
 z127 := Tryz.sizeOf258
 v127 := Tryz.zeroValue258
 t146 := Tryz.underlying295
 a146 := Tryz.isAgg295
 z146 := Tryz.sizeOf295
 v146 := Tryz.zeroValue295
 t148 := Tryz.underlying297
 a148 := Tryz.isAgg297
 z148 := Tryz.sizeOf297
 v148 := Tryz.zeroValue297
 t164 := Tryz.underlying336
 a164 := Tryz.isAgg336
 z164 := Tryz.sizeOf336
 v164 := Tryz.zeroValue336 }
theorem Tryz.Builder_Extra_105 : Builder.Extra Tryz.prog Tryz.lays105_ren := {
 sizeBuilder := by kernel_rfl
 liesBuilder := by kernel_rfl
 t5 := Tryz.underlying5
 a5 := Tryz.isAgg5
 z5 := Tryz.sizeOf5
 v5 := Tryz.zeroValue5
 infoByte := by kernel_rfl
 cellsByte := by kernel_rfl
 sizeByte := by kernel_rfl
 neB5 := by decide }
open Go.RowKit Go.Lib in
theorem Tryz.strings_Repeat (s : ByteArray) (c : Nat) (w : World) (hc : c <= 9223372036854775807) (hlen : s.size * c <= 140737488355328) :
  Calls Tryz.prog 60 #[.string s, .int .i64 c] w fun e w' => e = .returned (.string ⟨(Lib.repeatL s.data.toList c).toArray⟩) /\ Below w.heap.size w w' := Any.strings_Repeat Tryz.lays105 Tryz.Builder_Extra_105 s c w hc hlen
end Go.Proofs
namespace Go.Proofs.YtalkkhafcfhglaaGreatDoor
open Go.RowKit
theorem Jsf : ∀ c : Nat, Lib.repeatL [(0 : UInt8)] c = zeros c
 | 0 => rfl
 | c + 1 => by
   have h := Jsf c;simp [Lib.repeatL, zeros, List.replicate_succ] at h ⊢;first | exact h | (rw [h])
theorem Jm5 (c : Nat) (w : World) (hc : c <= 100000) : Calls Tryz.prog 60 #[.string ⟨#[0]⟩, .int .i64 (c : Int)] w fun e w' => e = .returned (.string (strOf (zeros c))) /\ Below w.heap.size w w' := by
 refine (Tryz.strings_Repeat ⟨#[0]⟩ c w (by omega) (by show 1 * c <= _; omega)).mono ?_;rintro e w1 ⟨rfl, hb⟩;refine ⟨?_, hb⟩;show Ending.returned (.string ⟨(Lib.repeatL [0] c).toArray⟩) = _;rw [Jsf];rfl
def Ja5 (f : Int -> Option ByteArray) (at_ : Int) : ByteArray := (f at_).getD (strOf (zeros 256))
theorem J3y {B g mn ml N n : Nat} {f fl : Int -> Option ByteArray} {ws : List (Int × ByteArray)} {vW : Value} (w : World) (h : Jbe w B g mn ml N n f fl ws vW) (k : Nat) (hk : k < N) :
  Calls Tryz.prog 62 #[.pointer (some ⟨g, 0, none⟩), .int .i64 (k : Int)] w fun e w' => e = .returned (.tuple #[.string (Ja5 f k), .int .i64 0]) /\ Below w.heap.size w w' := by
 have HO := zI (Jm4 w h);obtain ⟨wr, left, kA, kn, kc, hb⟩ := h.ex;have e5 := hb.at_ 5 (v := .int .i64 (N : Int)) rfl;have e6 := hb.at_ 6 (v := .map (some mn)) rfl;have hN := h.size.2
 have hwf : (Lit.int .i64 (k : Int)).wf = true := by
  have e1 : IntKind.i64.min = -9223372036854775808 /\ IntKind.i64.max = 9223372036854775807 := by decide
  simp [Lit.wf, e1.1, e1.2];omega
 have hlk := h.now.look hwf;have HR := zI (Jm5 256 w (by omega));have h1 : decide ((k : Int) < 0) = false := decide_eq_false (by omega);have h2 : decide ((N : Int) <= (k : Int)) = false := decide_eq_false (by omega);clear h hb;cases hf : f k with
 | none =>
   have HV := zI (show Ja5 f k = strOf (zeros 256) from by unfold Ja5; rw [hf]; rfl);have hl : Jqk f k = .tuple #[.string ByteArray.empty, .bool false] := by unfold Jqk; rw [hf]
   rw [hl] at hlk;clear hl hf;go_enter Tryz.func62, Tryz.ntmps62;go_wp2_with fail
   refine HO.out.mono ?_;rintro e w1 ⟨rfl, hw⟩;subst hw;go_wp2_with fail
   refine HR.out.mono ?_;rintro e w2 ⟨rfl, hb2⟩;go_wp2_with fail
   go_ret2;exact ⟨by rw [HV.out]; rfl, hb2⟩
 | some s =>
   have HV := zI (show Ja5 f k = s from by unfold Ja5; rw [hf]; rfl);have hl : Jqk f k = .tuple #[.string s, .bool true] := by unfold Jqk; rw [hf]
   rw [hl] at hlk;clear hl hf;go_enter Tryz.func62, Tryz.ntmps62;go_wp2_with fail
   refine HO.out.mono ?_;rintro e w1 ⟨rfl, hw⟩;subst hw;go_wp2_with fail
   go_ret2;exact ⟨by rw [HV.out]; rfl, Below.refl _ _⟩
end Go.Proofs.YtalkkhafcfhglaaGreatDoor
