/-
  Several texts in one: StoB, Catl, Waln.
-/
import Derived.Test.YtalkkhafcfhglaaGreatDoorQ39
set_option maxRecDepth 100000
set_option maxHeartbeats 4000000
namespace Go.Proofs.YtalkkhafcfhglaaGreatDoor
open Go.RowKit
def bksL (f : Int -> Option ByteArray) (zs : List Int) : List Value := zs.map fun z => Value.string (Ja5 f z)
theorem Jpi (f : Int -> Option ByteArray) (zs : List Int) (z : Int) : bksL f (zs ++ [z]) = bksL f zs ++ [.string (Ja5 f z)] := by simp [bksL]
theorem Juk {F : Nat -> Prop} {g N n0 : Nat} {f fl : Int -> Option ByteArray} {ws : List (Int × ByteArray)} (w : World) (h : DkAt w F g N n0 f fl ws) (A : Option Addr) (n c : Nat) (zs : List Int) (hz : Ints w .i64 A n zs) (hin : ∀ z ∈ zs, 0 <= z /\ z < (N : Int)) (hn : n <= 900000) :
  Calls Tryz.prog 65 #[.pointer (some ⟨g, 0, none⟩), .slice A n c] w fun e w' => ∃ v, e = .returned (.tuple #[v, .int .i64 0]) /\ w'.ownsRow w.heap.size 9 1 v n (bksL f zs) /\ Below w.heap.size w w' := by
 have HD := zI (fun W (hW : Below w.heap.size w W) j (hj : j < N) => Jiq (h.below hW) j hj);have HZ := zI hz;have HLN := zI hz.len;have HIN := zI hin;clear h hz hin;go_enter Tryz.func65, Tryz.ntmps65;go_wp2_with fail
 go_loopw [6, 13] (fun v j wr => ∃ q : Nat, q <= n /\ j = .int .i64 (q : Int) /\ wr.ownsRow w.heap.size 9 1 v q (bksL f (zs.take q)) /\ Below w.heap.size w wr) (fun _ j _ => n - (intOf j).toNat)
 case atStart => exact ⟨0, Nat.zero_le _, rfl, World.ownsRow_nil _ _ _ _, Below.refl _ _⟩
 case round =>
  obtain ⟨q, hq, rfl, hown, hb⟩ := hrel;by_cases hlt : q < n
  · have K : q < zs.length := by rw [HLN.out]; exact hlt
    obtain ⟨b, off, rfl, hbl, hcl⟩ := (HZ.out.below hb).get K;have HS := zI (show bksL f (zs.take (q + 1)) = bksL f (zs.take q) ++ [.string (Ja5 f zs[q])] from by rw [List.take_succ_eq_append_getElem K, Jpi]);have hzq := HIN.out _ (List.getElem_mem K);generalize zs[q]'K = z at *;obtain ⟨k, rfl⟩ : ∃ k : Nat, z = (k : Int) := ⟨z.toNat, by omega⟩;have HQ := zI (HD.out _ hb k (by omega));have HO := zI hown;have HB := zI hb;have HK := zI (show q + 1 <= 1000000 from by omega);generalize Ja5 f (k : Int) = Z at *;clear hown hb;go_wp2_with fail
    refine HQ.out.mono ?_;rintro e w2 ⟨rfl, hb2⟩;have hb3 := hb2.alloc hb2.size (.cells #[.string Z] 9);have HSL := zI (Sl.new w2 9 w2.heap.size [.string Z] #[.string Z] rfl rfl);have HON := zI (show ∀ u ∈ ([.string Z] : List Value), u.oneCell' = true from by intro u hu; rw [List.mem_singleton.1 hu]; rfl);have HO3 := zI (Jaj HO.out hb3);have HB3 := zI (HB.out.trans (hb3.mono HB.out.size));clear hb2 hb3;go_wp2_with (at_builtin; refine Jp8 rfl _ _ rfl HO3.out rfl (some ⟨w2.heap.size, 0, none⟩) 1 1 [.string Z] rfl rfl HSL.out HON.out HK.out HB3.out.size ?_; intro A' c' w5 ho5 hg5)
    have hb5 := Jb8 HO3.out hg5 HB3.out HB3.out.size;rw [<- HS.out] at ho5;go_roundw
    case rel => exact ⟨q + 1, by omega, by go_num, ho5, hb5⟩
    case measure => simp [intOf]; omega
  · have hqe : q = n := by omega
    have HT := zI (show zs.take q = zs from List.take_of_length_le (by rw [HLN.out]; omega));rw [HT.out, hqe] at hown;have HO := zI hown;have HB := zI hb;clear hown hb;go_wp2_with fail
    go_ret2;exact ⟨_, rfl, HO.out, HB.out⟩
theorem Jf4.chg {w w' : World} {F G : Nat -> Prop} {g i : Nat} {now : Int} {nm : ByteArray} {A : Option Addr} {n c : Nat} {B : Option Addr} {c2 : Nat} {E : Option Addr} {en ec : Nat} {ts : List Ti} {fl : List Int} {ms : List Em} (h : Jf4 w F g i now nm A n c B c2 E en ec ts fl ms) (hc : Chg G w w') (hd : Dj F G) (hA : AIn F A) (hB : AIn F B) : Jf4 w' F g i now nm A n c B c2 E en ec ts fl ms :=
 ⟨h.hg, h.hi, h.hnow, h.hnm, h.hts.chg hc (hA.dj hd), h.hc, h.hck, h.hfl.chg hc (hB.dj hd), h.hflo, h.hes.chg hc hd, h.hen, h.hok, h.hsh, h.hbl, h.hlen⟩
theorem Jf4.sub {w : World} {F G : Nat -> Prop} {g i : Nat} {now : Int} {nm : ByteArray} {A : Option Addr} {n c : Nat} {B : Option Addr} {c2 : Nat} {E : Option Addr} {en ec : Nat} {ts : List Ti} {fl : List Int} {ms : List Em} (h : Jf4 w F g i now nm A n c B c2 E en ec ts fl ms) (hs : ∀ b, F b -> G b) : Jf4 w G g i now nm A n c B c2 E en ec ts fl ms :=
 ⟨h.hg, h.hi, h.hnow, h.hnm, h.hts, h.hc, h.hck, h.hfl, h.hflo, h.hes.sub hs, h.hen, h.hok, h.hsh, h.hbl, h.hlen⟩
theorem DsAt.sblocks {w : World} {F : Nat -> Prop} {g N q : Nat} {f : Int -> Option ByteArray} (h : DsAt w F g N q f) (A : Option Addr) (n c : Nat) (zs : List Int) (hz : Ints w .i64 A n zs) (hin : ∀ z ∈ zs, 0 <= z /\ z < (N : Int)) (hn : n <= 900000) :
  Calls Tryz.prog 65 #[.pointer (some ⟨g, 0, none⟩), .slice A n c] w fun e w' => ∃ v, e = .returned (.tuple #[v, .int .i64 0]) /\ w'.ownsRow w.heap.size 9 1 v n (bksL f zs) /\ Below w.heap.size w w' := by
 obtain ⟨_, _, _, h, _⟩ := h;exact Juk w h A n c zs hz hin hn
def catZ (a j : Nat) : List Int := (List.range j).map fun q => ((a + q : Nat) : Int)
theorem Jpj (a j : Nat) : catZ a (j + 1) = catZ a j ++ [((a + j : Nat) : Int)] := by unfold catZ; rw [List.range_succ, List.map_append]; rfl
theorem J1j (a j : Nat) : (catZ a j).length = j := by simp [catZ]
theorem Jpk (f : Int -> Option ByteArray) (a nb : Nat) (l : List UInt8) (h : ∀ j, j < nb -> Ja5 f ((a + j : Nat) : Int) = chC l j) : ∀ j, j <= nb -> bksL f (catZ a j) = (List.range j).map fun q => Value.string (chC l q)
 | 0, _ => rfl
 | j + 1, hj => by
   rw [Jpj, Jpi, Jpk f a nb l h j (by omega), h j (by omega), List.range_succ, List.map_append]; rfl
theorem J1k (l : List UInt8) (j : Nat) : strOf ((padC l).take (256 * j)) ++ chC l j = strOf ((padC l).take (256 * (j + 1))) := by
 unfold chC;rw [Jd6, show 256 * (j + 1) = 256 * j + 256 from by omega, List.take_add]
theorem J1l (l : List UInt8) : (strOf ((padC l).take (256 * nbC l))).extract 0 l.length = strOf l := by
 rw [List.take_of_length_le (by rw [Jhl]; omega)];unfold padC;exact Jd5 l _
theorem Jyk {F : Nat -> Prop} {g N C B D R gd gen id mp bk q : Nat} {lg : Option Addr} {bad : Int} {f : Int -> Option ByteArray} (k i : Nat) (now : Int) (nm : ByteArray) (ts : List Ti) (fl : List Int) (es : List En) (l : List UInt8) (w : World)
  (hX : Bx w g 48 (Jcv N C B D R ⟨gd, 0, none⟩ gen id mp bk lg bad)) (hD : DsAt w F gd N q f) (hL : Jex N C B D R) (hl : l = catB k i now (Py.printL nm.toList ts) fl es) (hf : Jhk k i now nm ts fl es) (hG : Glo w)
  (hlen : l.length <= C * 256) (hon : ∀ j, j < nbC l -> Ja5 f ((Jcb B k + j : Nat) : Int) = chC l j) :
  Calls Tryz.prog 31 #[.pointer (some ⟨g, 0, none⟩), .agg #[.int .u64 (k : Int), .int .i64 (N : Int), .int .i64 (l.length : Int)]] w fun e w' => ∃ A c B' c2 E ec ms, e = .returned (.tuple #[.agg (Jax k i now nm A ts.length c B' c2 E es.length ec), .int .i64 0]) /\ ms.map Em.e = es /\
   Jf4 w' (made w w') k i now nm A ts.length c B' c2 E es.length ec ts fl ms /\ AIn (made w w') A /\ AIn (made w w') B' /\ Below w.heap.size w w' := by
 obtain ⟨n, hn⟩ : ∃ n, n = ts.length := ⟨_, rfl⟩;obtain ⟨en, hen⟩ : ∃ en, en = es.length := ⟨_, rfl⟩;rw [<- hn, <- hen];have HN := zI hn;have HEN := zI hen;clear hn hen;have hbd := hL.bd;have hN := hL.n;obtain ⟨L, hLL⟩ : ∃ L, L = l.length := ⟨_, rfl⟩;obtain ⟨nb, hnb⟩ : ∃ nb, nb = nbC l := ⟨_, rfl⟩;have hn1 : nb = (L + 255) / 256 := by rw [hnb, hLL]; rfl
 have hL7 : L <= 7680 := by rw [hLL]; omega
 have hnb30 : nb <= 30 := by omega
 have hnbC : nb <= C := by rw [hLL] at hn1; omega
 obtain ⟨a, ha⟩ : ∃ a, a = Jcb B k := ⟨_, rfl⟩;have haN : a + nb <= N /\ a <= 48 := by rw [ha]; unfold Jcb; split <;> omega
 rw [<- hLL];have d1 : decide ((C : Int) * 256 < (L : Int)) = false := decide_eq_false (by rw [hLL]; omega);obtain ⟨gs, hgs⟩ : ∃ gs, gs = w.heap.size := ⟨_, rfl⟩;obtain ⟨gr, hgr⟩ : ∃ gr, gr = w.heap.size + 1 := ⟨_, rfl⟩;obtain ⟨w0, hw0⟩ : ∃ w0, w0 = (w.alloc (.cells #[.int .u64 (k : Int), .int .i64 (N : Int), .int .i64 (L : Int)] 83)).alloc (.cells zCat 88) := ⟨_, rfl⟩;have hz0 : (w.alloc (.cells #[.int .u64 (k : Int), .int .i64 (N : Int), .int .i64 (L : Int)] 83)).heap.size = w.heap.size + 1 := by simp
 have hb0 : Below w.heap.size w w0 := by rw [hw0]; exact ((Below.refl _ w).alloc (Nat.le_refl _) _).alloc (by simp) _
 have hs0 : Bx w0 gs 83 #[.int .u64 (k : Int), .int .i64 (N : Int), .int .i64 (L : Int)] := by rw [hw0, hgs]; exact (Bx.new w _ _).alloc _
 have hr0 : Bx w0 gr 88 zCat := by
  have := Bx.new (w.alloc (.cells #[.int .u64 (k : Int), .int .i64 (N : Int), .int .i64 (L : Int)] 83)) 88 zCat;rw [hz0, <- hgr] at this;rw [hw0]; exact this
 have HX0 := zI (hX.below hb0);have HD0 := zI (hD.below hb0);have HS0 := zI hs0;have HR0 := zI hr0;have HB0 := zI hb0;have HW0 := zI hw0;have HGS := zI hgs;have HGR := zI hgr;have HGL := zI (hG.below hb0);have HFI := zI hf;have HL := zI hl;have HLL := zI hLL;have HNB := zI hnb;have HN1 := zI hn1;have HA := zI ha;have HAN := zI haN;have HON := zI hon;have hdr := (Below.refl w0.heap.size w0).drew;have s2 := hs0.at_ 2 (v := .int .i64 (L : Int)) rfl;have s2' := (hs0.below hdr).at_ 2 (v := .int .i64 (L : Int)) rfl;have x4 := HX0.out.at_ 4 (v := .int .i64 (C : Int)) rfl;have x4' := (HX0.out.below hdr).at_ 4 (v := .int .i64 (C : Int)) rfl;have HC30 := zI hbd;have HNN := zI hN;have hC30 : C <= 30 := hbd.2.1;have HLEN := zI hlen;have HNBC := zI hnbC;clear hX hD hL hl hf hG hlen hon hbd hN hLL hnb hn1 ha haN hgs hgr hw0 hz0 hb0 hs0 hr0 hdr hnbC;go_enter Tryz.func31, Tryz.ntmps31;go_upto_region 1 with fail
 rw [<- HW0.out, <- HGR.out, <- HGS.out];go_region
 obtain ⟨w1, hw1⟩ : ∃ w1, w1 = w0.drew := ⟨_, rfl⟩;have hb1 : Below w0.heap.size w0 w1 := by rw [hw1]; exact (Below.refl w0.heap.size w0).drew
 rw [<- hw1];have HX1 := zI (HX0.out.below hb1);have HD1 := zI (HD0.out.below hb1);have HS1 := zI (HS0.out.below hb1);have HR1 := zI (HR0.out.below hb1);have HB1 := zI (HB0.out.trans (hb1.mono HB0.out.size));have HG1 := zI (HGL.out.below hb1);have HWH := zI (fun W (hW : Below w1.heap.size w1 W) => Jsg k (HX1.out.below hW));clear hw1 hb1 s2 s2' x4 x4' d1;go_wp2_with fail
 go_loopw [6, 7] (fun o i wr => ∃ (j : Nat) (E : Option Addr) (ec : Nat), j <= nb /\ i = .int .i64 ((256 * j : Nat) : Int) /\ o = .slice E j ec /\ wr.ownsRow w1.heap.size 3 1 (.slice E j ec) j ((catZ a j).map (Value.int .i64)) /\ Below w1.heap.size w1 wr) (fun _ i _ => 256 * nb - (intOf i).toNat)
 case atStart => exact ⟨0, none, 0, Nat.zero_le _, rfl, rfl, World.ownsRow_nil _ _ _ _, Below.refl _ _⟩
 case round =>
  obtain ⟨j, E, ec, hj, rfl, rfl, hr, hb⟩ := hrel;have s2 := (HS1.out.below hb).at_ 2 (v := .int .i64 (L : Int)) rfl;have HBR := zI hb;have HRR := zI hr;by_cases hlt : j < nb
  · have hiL : 256 * j < L := by have := HN1.out; omega
    have s0 := (HS1.out.below hb).at_ 0 (v := .int .u64 (k : Int)) rfl;have HW := zI (HWH.out wr hb);rw [<- HA.out] at HW;have HZS := zI (Jpj a j);obtain ⟨ii, hi⟩ : ∃ ii, ii = 256 * j := ⟨_, rfl⟩;rw [<- hi] at hiL ⊢;have hq : (ii : Int) / 256 = (j : Int) := by rw [hi]; omega
    have HI := zI hi;have ha48 : a <= 48 := HAN.out.2;have hba := (Below.refl wr.heap.size wr).alloc (Nat.le_refl _) (.cells #[.int .i64 ((a : Int) + (j : Int))] 3);have HRA := zI (Jaj hr hba);have HSL := zI (Sl.new wr 3 wr.heap.size [.int .i64 ((a : Int) + (j : Int))] #[.int .i64 ((a : Int) + (j : Int))] rfl rfl);have HON := zI (show ∀ u ∈ [Value.int .i64 ((a : Int) + (j : Int))], u.oneCell' = true from by intro u hu; rw [List.mem_singleton.1 hu]; rfl);have HKK := zI (show j + 1 <= 1000000 from by omega);have HBS := zI (show w1.heap.size <= (wr.alloc (.cells #[.int .i64 ((a : Int) + (j : Int))] 3)).heap.size from Nat.le_trans hb.size hba.size);have HBA := zI (hb.trans (hba.mono hb.size));clear hi hb hr hba;go_wp2_with fail
    refine HW.out.mono ?_;rintro e w4 ⟨rfl, hw4⟩;subst hw4;go_wp2_with (at_builtin; refine Jvv rfl _ _ rfl HRA.out rfl (some ⟨wr.heap.size, 0, none⟩) 1 1 [.int .i64 ((a : Int) + (j : Int))] rfl rfl HSL.out HON.out HKK.out HBS.out ?_; intro E' ec' w5 ho5 hg5)
    have HR5 := zI (show w5.ownsRow w1.heap.size 3 1 (.slice E' (j + 1) ec') (j + 1) ((catZ a (j + 1)).map (Value.int .i64)) from by
     rw [HZS.out, List.map_append];exact ho5)
    have HB5 := zI (Jb8 HRA.out hg5 HBA.out HBS.out);clear ho5 hg5 s0 s2 hq;go_wp2_with fail
    go_roundw
    case rel => exact ⟨j + 1, E', ec', by omega, by rw [HI.out]; go_num, rfl, HR5.out, HB5.out⟩
    case measure => have hI := HI.out; simp [intOf]; omega
  · have hje : j = nb := by omega
    subst hje;have hiL : L <= 256 * j := by have := HN1.out; omega
    obtain ⟨ii, hi⟩ : ∃ ii, ii = 256 * j := ⟨_, rfl⟩;rw [<- hi] at hiL ⊢;have HI := zI hi;obtain ⟨_, _, e2, hs2⟩ := Jaq hr;cases e2
    have hzs : Ints wr .i64 E j (catZ a j) := ⟨hs2, J1j a j, by unfold maxLen; omega, fun z hz => by
     unfold catZ at hz;obtain ⟨x, hx, rfl⟩ := List.mem_map.1 hz;have h1 := HAN.out;have h2 := List.mem_range.1 hx;have h3 := HNN.out;exact Jbz (by omega)⟩
    have HSB := zI ((HD1.out.below hb).sblocks E j ec (catZ a j) hzs (fun z hz => by
     unfold catZ at hz;obtain ⟨x, hx, rfl⟩ := List.mem_map.1 hz;have h1 := HAN.out;have h2 := List.mem_range.1 hx;omega) (by omega))
    rw [Jpk f a j l (by rw [HA.out, HNB.out]; exact HON.out) j (Nat.le_refl _)] at HSB;have x7 := (HX1.out.below hb).at_ 7 (v := .pointer (some ⟨gd, 0, none⟩)) rfl;clear hi hr hb hs2 hzs;go_wp2_with fail
    refine HSB.out.mono ?_;rintro e w4 ⟨vr, rfl, ho4, hb4⟩;obtain ⟨A4, c4, rfl, _⟩ := Jaq ho4;have HBO := zI (show gr < w4.heap.size from Nat.lt_of_lt_of_le HR1.out.lt (Nat.le_trans HBR.out.size hb4.size));have HB4 := zI (HBR.out.trans (hb4.mono HBR.out.size));have HO4 := zI ho4;clear s2 x7 ho4 hb4;go_wp2_with fail
    go_loopw [10, 55] (fun s i wr => ∃ (p : Nat), p <= j /\ i = .int .i64 (p : Int) /\ s = .string (strOf ((padC l).take (256 * p))) /\ wr = w4) (fun _ i _ => j - (intOf i).toNat)
    case atStart => exact ⟨0, Nat.zero_le _, rfl, by simp [strOf], rfl⟩
    case round =>
     obtain ⟨p, hp, rfl, rfl, rfl⟩ := hrel;by_cases hlt : p < j
     · obtain ⟨_, _, e4, hs4⟩ := Jaq HO4.out
       cases e4
       obtain ⟨b4, o4, rfl, hb4, hc4⟩ := hs4.at_ (by intro e; have := congrArg List.length e; simp at this; omega);have c4' := hc4 p (.string (chC l p)) (by rw [List.getElem?_map, List.getElem?_range hlt]; rfl);have HY := zI (J1k l p);obtain ⟨X, hX⟩ : ∃ X, X = strOf ((padC l).take (256 * p)) := ⟨_, rfl⟩;obtain ⟨Y, hY⟩ : ∃ Y, Y = chC l p := ⟨_, rfl⟩;have hXs : X.size <= 10000 := by rw [hX, Jac, List.length_take]; omega
       have hYs : Y.size <= 300 := by rw [hY, Jsy l p (by rw [<- HNB.out]; exact hlt)]; omega
       rw [<- hX, <- hY] at HY;rw [<- hX];rw [<- hY] at c4';clear hs4 hc4 hX hY;go_wp2_with fail
       rw [HY.out];go_roundw
       case rel => exact ⟨p + 1, by omega, by go_num, rfl, trivial⟩
       case measure => simp [intOf]; omega
     · have hpe : p = j := by omega
       subst hpe;have HGX := zI (J4g k i now nm ts fl es wr HFI.out (HG1.out.below HB4.out));rw [<- HL.out] at HGX;obtain ⟨X, hX⟩ : ∃ X, X = strOf ((padC l).take (256 * p)) := ⟨_, rfl⟩;obtain ⟨S, hS⟩ : ∃ S, S = strOf l := ⟨_, rfl⟩;have hxl : X.size = 256 * p := by rw [hX, Jac, List.length_take, Jhl, <- HNB.out]; omega
       have hLX : L <= X.size := by have := HI.out; omega
       have hXs : X.size <= 10000 := (by omega);have HXC := zI (show X.extract 0 L = S from by rw [hX, hS, HNB.out, HLL.out]; exact J1l l);rw [<- hX];rw [<- hS] at HGX;have s2 := (HS1.out.below HB4.out).at_ 2 (v := .int .i64 (L : Int)) rfl;rw [<- HN.out, <- HEN.out] at HGX;clear hX hS hxl;go_wp2_with fail
       rw [HXC.out];refine HGX.out.mono ?_;rintro e w6 ⟨A, c, B', c2, E6, ec6, ms, rfl, hms, hck, hA6, hB6, hb6⟩;have HMS := zI hms;have HZ4 := zI HB4.out.size;have HB6 := zI (HB4.out.trans (hb6.mono HB4.out.size));obtain ⟨w7, hw7⟩ : ∃ w7, w7 = w6.alloc (.cells (Jax k i now nm A n c B' c2 E6 en ec6) 88) := ⟨_, rfl⟩;obtain ⟨gc, hgc⟩ : ∃ gc, gc = w6.heap.size := ⟨_, rfl⟩;have hx7 := Bx.new w6 88 (Jax k i now nm A n c B' c2 E6 en ec6);have hb7 := (Below.refl w6.heap.size w6).alloc (Nat.le_refl _) (.cells (Jax k i now nm A n c B' c2 E6 en ec6) 88);rw [<- hw7, <- hgc] at hx7;rw [<- hw7] at hb7;have HB7 := zI (HB6.out.trans (hb7.mono HB6.out.size));have HCK := zI (hck.below hb7);have HA6 := zI hA6;have HBB := zI hB6;have HZ7 := zI hb7.size;have HW7 := zI hw7;have HGC := zI hgc;have t0 := (HS1.out.below HB7.out).at_ 0 (v := .int .u64 (k : Int)) rfl;obtain ⟨x0, x1, x2, x3, x4, x5, x6, x7, x8, x9, x10, x11⟩ := Jbd hx7;have hy := HR1.out.below HB7.out;have HY := zI hy;have y0 := hy.at_ 0 rfl;have y1 := hy.at_ 1 rfl;have y2 := hy.at_ 2 rfl;have y3 := hy.at_ 3 rfl;have y4 := hy.at_ 4 rfl;have y5 := hy.at_ 5 rfl;have y6 := hy.at_ 6 rfl;have y7 := hy.at_ 7 rfl;have y8 := hy.at_ 8 rfl;have y9 := hy.at_ 9 rfl;have y10 := hy.at_ 10 rfl;have y11 := hy.at_ 11 rfl;have f0 := hy.free 0;have f1 := hy.free 1;have f2 := hy.free 2;have f3 := hy.free 3;have f4 := hy.free 4;have f5 := hy.free 5;have f6 := hy.free 6;have f7 := hy.free 7;have f8 := hy.free 8;have f9 := hy.free 9;have f10 := hy.free 10;have f11 := hy.free 11;clear hms hck hA6 hB6 hb6 hb7 hx7 hw7 hgc hy s2;go_upto_region 18 with fail
       have hW7 : w6.alloc (.cells #[.int .u64 (k : Int), .int .u64 (i : Int), .int .i64 now, .string nm, .slice A n c, .slice B' n c2, .string ByteArray.empty, .slice none 0 0, .slice none 0 0, .int .i64 0, .int .i64 0, .slice E6 en ec6] 88) = w7 := HW7.out.symm;rw [hW7, <- HGC.out];clear hW7;go_wp2_with fail
       clear x0 x1 x2 x3 x4 x5 x6 x7 x8 x9 x10 x11 y0 y1 y2 y3 y4 y5 y6 y7 y8 y9 y10 y11 f0 f1 f2 f3 f4 f5 f6 f7 f8 f9 f10 f11;obtain ⟨w8, hw8⟩ : ∃ w8, w8 = putC w7 gr 0 [.int .u64 (k : Int), .int .u64 (i : Int), .int .i64 now, .string nm, .slice A n c, .slice B' n c2, .string ByteArray.empty, .slice none 0 0, .slice none 0 0, .int .i64 0, .int .i64 0, .slice E6 en ec6] := ⟨_, rfl⟩;have hx8 := Jbv HY.out [.int .u64 (k : Int), .int .u64 (i : Int), .int .i64 now, .string nm, .slice A n c, .slice B' n c2, .string ByteArray.empty, .slice none 0 0, .slice none 0 0, .int .i64 0, .int .i64 0, .slice E6 en ec6] rfl;have hb8 := Jar (B := w.heap.size) [.int .u64 (k : Int), .int .u64 (i : Int), .int .i64 now, .string nm, .slice A n c, .slice B' n c2, .string ByteArray.empty, .slice none 0 0, .slice none 0 0, .int .i64 0, .int .i64 0, .slice E6 en ec6] (show w.heap.size <= gr from by have := HGR.out; omega) w7 0;have hc8 := Jdt (g := gr) [.int .u64 (k : Int), .int .u64 (i : Int), .int .i64 now, .string nm, .slice A n c, .slice B' n c2, .string ByteArray.empty, .slice none 0 0, .slice none 0 0, .int .i64 0, .int .i64 0, .slice E6 en ec6] w7 0;rw [<- hw8] at hx8 hb8 hc8;simp only [putC, Nat.zero_add, Nat.reduceAdd] at hw8;rw [<- hw8];have q0 := hx8.at_ 0 rfl;have q1 := hx8.at_ 1 rfl;have q2 := hx8.at_ 2 rfl;have q3 := hx8.at_ 3 rfl;have q4 := hx8.at_ 4 rfl;have q5 := hx8.at_ 5 rfl;have q6 := hx8.at_ 6 rfl;have q7 := hx8.at_ 7 rfl;have q8 := hx8.at_ 8 rfl;have q9 := hx8.at_ 9 rfl;have q10 := hx8.at_ 10 rfl;have q11 := hx8.at_ 11 rfl;have hzz := HBO.out;have hdj : Dj (made wr w6) (fun b => b = gr) := fun b hb e => by have := hb.1; omega
       have hz48 : w6.heap.size <= w8.heap.size := Nat.le_trans HZ7.out hc8.size;have up : ∀ b, made wr w6 b -> made w w8 b := fun b hb => ⟨Nat.le_trans (Nat.le_trans HB1.out.size HZ4.out) hb.1, Nat.lt_of_lt_of_le hb.2 hz48⟩;have hckF := (HCK.out.chg hc8 hdj HA6.out HBB.out).sub up;refine bodyPost_ret (v := .tuple #[.agg (Jax k i now nm A n c B' c2 E6 en ec6), .int .i64 0]) (by simp [results, Tryz.results31, go_sem, q0, q1, q2, q3, q4, q5, q6, q7, q8, q9, q10, q11]) rfl ⟨A, c, B', c2, E6, ec6, ms, rfl, HMS.out, hckF, HA6.out.sub up, HBB.out.sub up, (HB1.out.trans (HB7.out.mono HB1.out.size)).trans hb8⟩
theorem Jpl (p : Addr) (n gen : Nat) (w : World) (hn : 1 <= n /\ n <= 4096) (hg : 1 <= gen) :
  Calls Tryz.prog 76 #[.pointer (some p), .int .i64 (n : Int), .int .u64 (gen : Int)] w fun e w' => e = .returned (.bool true) /\ w = w' := by
 have d1 : decide ((0 : Int) < (gen : Int)) = true := decide_eq_true (by omega);have d1' : decide (0 < gen) = true := decide_eq_true (by omega);have d2 : decide ((1 : Int) <= (n : Int)) = true := decide_eq_true (by omega);have d2' : decide (1 <= n) = true := decide_eq_true (by omega);have d3 : decide ((n : Int) <= 4096) = true := decide_eq_true (by omega);have d3' : decide (n <= 4096) = true := decide_eq_true (by omega);go_enter Tryz.func76, Tryz.ntmps76;go_wp2;go_ret;exact ⟨rfl, rfl⟩
def Jqw (w : World) (g : Nat) (d : Addr) (from_ n gen : Nat) : Prop :=
 Bx w g 264 #[.pointer (some d), .int .i64 (from_ : Int), .int .i64 (n : Int), .int .u64 (gen : Int), .int .i64 0, .int .i64 0, .int .i64 0]
theorem J4j (p : Addr) (from_ n gen : Nat) (w : World) (hn : 1 <= n /\ n <= 4096) (hg : 1 <= gen) :
  Calls Tryz.prog 86 #[.pointer (some p), .int .i64 (from_ : Int), .int .i64 (n : Int), .int .u64 (gen : Int)] w fun e w' => ∃ g, e = .returned (.tuple #[.pointer (some ⟨g, 0, none⟩), .int .i64 0]) /\ Jqw w' g p from_ n gen /\ w.heap.size <= g /\ Below w.heap.size w w' := by
 have HR := zI (Jpl p n gen w hn hg);have hb := (Below.refl w.heap.size w).alloc (Nat.le_refl _) (.cells #[.pointer (some p), .int .i64 (from_ : Int), .int .i64 (n : Int), .int .u64 (gen : Int), .int .i64 0, .int .i64 0, .int .i64 0] 264);have HB := zI hb;clear hb hn hg;go_enter Tryz.func86, Tryz.ntmps86;go_wp2_with fail
 refine HR.out.mono ?_;rintro e w1 ⟨rfl, hw⟩;subst hw;go_wp2_with fail
 go_ret2;exact ⟨w.heap.size, rfl, Bx.new w _ _, Nat.le_refl _, HB.out⟩
end Go.Proofs.YtalkkhafcfhglaaGreatDoor
