/-
  Several texts in one: Cate, Catg.
-/
import Derived.Test.YtalkkhafcfhglaaGreatDoorQ36
set_option maxRecDepth 100000
set_option maxHeartbeats 4000000
namespace Go.Proofs.YtalkkhafcfhglaaGreatDoor
open Go.RowKit
def enB (e : En) : List UInt8 := le 8 e.id ++ (le 1 e.tier ++ le 1 e.shard) ++ le 2 e.bl.length ++ e.bl.flatMap fun b => le 2 b.toNat
def catH (g i : Nat) (now : Int) (txt : List UInt8) (fl : List Int) (n : Nat) : List UInt8 :=
 le 8 g ++ le 8 i ++ le 8 (u64 now) ++ txB txt ++ (fl.flatMap fun v => le 8 (u64 v)) ++ txB [] ++ (le 8 (u64 0) ++ le 8 (u64 0)) ++ le 2 n
def catB (g i : Nat) (now : Int) (txt : List UInt8) (fl : List Int) (es : List En) : List UInt8 := catH g i now txt fl es.length ++ es.flatMap enB
structure Jf4 (w : World) (F : Nat -> Prop) (g i : Nat) (now : Int) (nm : ByteArray) (A : Option Addr) (n c : Nat) (B : Option Addr) (c2 : Nat) (E : Option Addr) (en ec : Nat) (ts : List Ti) (fl : List Int) (ms : List Em) : Prop where
 hg : 1 <= g /\ g < 18446744073709551616
 hi : i < 18446744073709551616
 hnow : 0 <= now /\ now <= 1099511627776
 hnm : nm.size <= maxLen
 hts : Tis w A n ts
 hc : n <= c
 hck : Py.checkR nm.toList ts = (0, 0)
 hfl : Ints w .i64 B n fl
 hflo : ∀ f ∈ fl, 0 <= f /\ f <= 4611686018427387904
 hes : Jg9 w F E en ms
 hen : en <= 90
 hok : ∀ m ∈ ms, m.e.Ok i
 hsh : (shK ms).Nodup
 hbl : (Jdv ms).Nodup
 hlen : (catB g i now (Py.printL nm.toList ts) fl (ms.map Em.e)).length <= 40000
theorem Jf4.below {w w' : World} {F : Nat -> Prop} {g i : Nat} {now : Int} {nm : ByteArray} {A : Option Addr} {n c : Nat} {B : Option Addr} {c2 : Nat} {E : Option Addr} {en ec : Nat} {ts : List Ti} {fl : List Int} {ms : List Em} (h : Jf4 w F g i now nm A n c B c2 E en ec ts fl ms) (hb : Below w.heap.size w w') : Jf4 w' F g i now nm A n c B c2 E en ec ts fl ms :=
 ⟨h.hg, h.hi, h.hnow, h.hnm, h.hts.below hb, h.hc, h.hck, h.hfl.below hb, h.hflo, h.hes.below hb, h.hen, h.hok, h.hsh, h.hbl, h.hlen⟩
theorem Jyh {F : Nat -> Prop} (g i : Nat) (now : Int) (nm : ByteArray) (A : Option Addr) (n c : Nat) (B : Option Addr) (c2 : Nat) (E : Option Addr) (en ec : Nat) (ts : List Ti) (fl : List Int) (ms : List Em) (w : World) (h : Jf4 w F g i now nm A n c B c2 E en ec ts fl ms) (hG : Glo w) :
  Calls Tryz.prog 133 #[.agg (Jax g i now nm A n c B c2 E en ec)] w fun e w' => e = .returned (.tuple #[.string (strOf (catB g i now (Py.printL nm.toList ts) fl (ms.map Em.e))), .int .i64 0]) /\ Below w.heap.size w w' := by
 have hb0 : Below w.heap.size w (w.alloc (.cells (Jax g i now nm A n c B c2 E en ec) 88)) := (Below.refl _ w).alloc (Nat.le_refl _) _;have b0 := Bx.new w 88 (Jax g i now nm A n c B c2 E en ec);have h0 := h.below hb0;have HVL := zI (Jyf g i now nm A n c B c2 E en ec ts fl ms _ h0.hg.1 h0.hnow h0.hnm h0.hts h0.hc h0.hck h0.hfl h0.hflo h0.hes h0.hen h0.hok h0.hsh h0.hbl);have HC := zI h0;have HG := zI (hG.below hb0);have HX0 := zI b0;have HB0 := zI hb0;have HPE := zI (fun W => Jr7 g i now nm A n c B c2 E en ec W);have hen := h.hen;clear b0 hb0 h h0 hG;go_enter Tryz.func133, Tryz.ntmps133;go_wp2_with fail
 refine HVL.out.mono ?_;rintro e w1 ⟨rfl, hb1⟩;have HX1 := zI (HX0.out.below hb1);have HB1 := zI (HB0.out.trans (hb1.mono HB0.out.size));have HC1 := zI (HC.out.below hb1);have HG1 := zI (HG.out.below hb1);have HPR := zI (Py.printP_any nm A n c ts w1 HC1.out.hck HC1.out.hts HC1.out.hc HG1.out.tab);clear hb1;obtain ⟨x0, x1, x2, x3, x4, x5, x6, x7, x8, x9, x10, x11⟩ := Jbd HX1.out;go_wp2_with fail
 refine HPR.out.mono ?_;rintro e w2 ⟨rfl, hb2⟩;have HX2 := zI (HX1.out.below hb2);have HB2 := zI (HB1.out.trans (hb2.mono HB1.out.size));have HC2 := zI (HC1.out.below hb2);clear hb2 x0 x1 x2 x3 x4 x5 x6 x7 x8 x9 x10 x11;obtain ⟨x0, x1, x2, x3, x4, x5, x6, x7, x8, x9, x10, x11⟩ := Jbd HX2.out;go_wp2_with fail
 refine (HPE.out _).mono ?_;rintro e w3 ⟨rfl, hb3⟩;have HX3 := zI (HX2.out.below hb3);have HB3 := zI (HB2.out.trans (hb3.mono HB2.out.size));have HC3 := zI (HC2.out.below hb3);clear hb3 x0 x1 x2 x3 x4 x5 x6 x7 x8 x9 x10 x11;go_upto_region 8 with fail
 have HL0 := zI (LayW.new w3);have HF3 := zI HC3.out.hfl;have HTL := zI HC3.out.hlen;have HFN := zI (show (fl.flatMap fun v => le 8 (u64 v)).length = 8 * n from by rw [Jem (fun v => le 8 (u64 v)) 8 (fun a => Jaz 8 _) fl, HC3.out.hfl.len]);have hn1 : 1 <= n := by have := (Py.check_fine HC3.out.hck).2.1; rw [HC3.out.hts.len] at this; exact this
 have hb : (Py.printL nm.toList ts).length + 8 * n <= 40000 := by
  have := HTL.out;unfold catB catH at this;simp only [List.length_append, HFN.out] at this;unfold txB at this;simp only [List.length_append, Jaz] at this;omega
 generalize hPP : Py.printL nm.toList ts = P at *;have HPP := zI hPP;obtain ⟨pn, hpn⟩ : ∃ pn, pn = P.length := ⟨_, rfl⟩;have hps : (⟨P.toArray⟩ : ByteArray).size = pn := by rw [<- Jab, Py.toList_mk, hpn]
 have HPT := zI (show txB (⟨P.toArray⟩ : ByteArray).toList = txB P from by rw [Py.toList_mk]);have HPL := zI (show (txB P).length = 2 + pn from by unfold txB; rw [List.length_append, Jaz, hpn]);rw [<- hpn] at hb;have HPN := zI hpn;have HEM := zI (show (txB ByteArray.empty.toList).length = 2 from by unfold txB; rw [List.length_append, Jaz, ByteArray.toList_eq]; rfl);have HPS := zI hps;generalize (⟨P.toArray⟩ : ByteArray) = PS at *;obtain ⟨gp, hgp⟩ : ∃ gp, gp = w3.heap.size := ⟨_, rfl⟩;obtain ⟨wL, hwL⟩ : ∃ wL, wL = w3.alloc (.cells #[.int .i64 0, .slice none 0 0] 307) := ⟨_, rfl⟩;rw [<- hgp, <- hwL] at HL0 ⊢;obtain ⟨l0, hl0⟩ : ∃ l0 : List UInt8, l0 = [] := ⟨_, rfl⟩;rw [<- hl0] at HL0;have HE0 := zI hl0;have hn0 : l0.length = 0 := by rw [hl0]; rfl
 clear hwL hgp hl0 hpn hps hPP;have HXk := zI (HL0.out.bx HX3.out);have x0 := HXk.out.at_ 0 (v := .int .u64 (g : Int)) rfl;have x1 := HXk.out.at_ 1 (v := .int .u64 (i : Int)) rfl;have HQ := zI (HL0.out.words [g, i] 2 2 #[.int .u64 (g : Int), .int .u64 (i : Int)] rfl rfl (by omega));go_upto_region 9 with (go_at_call 195; refine HQ.out.mono ?_; rintro e w11 ⟨rfl, hl⟩)
 obtain ⟨l1, hl1⟩ : ∃ l, l = l0 ++ [g, i].flatMap (le 8) := ⟨_, rfl⟩;rw [<- hl1] at hl;have hn1 : l1.length = 16 := by rw [hl1, List.length_append, hn0]; simp only [List.flatMap_cons, List.flatMap_nil, List.length_append, Jaz, List.length_nil]
 have HL1 := zI hl;have HE1 := zI hl1;clear hl hl1 hn0 HQ HXk x0 x1;have HXk := zI (HL1.out.bx HX3.out);have x0 := HXk.out.at_ 2 (v := .int .i64 now) rfl;have HQ := zI (HL1.out.ints [now] 1 1 #[.int .i64 now] rfl rfl (by omega));go_upto_region 10 with (go_at_call 196; refine HQ.out.mono ?_; rintro e w12 ⟨rfl, hl⟩)
 obtain ⟨l2, hl2⟩ : ∃ l, l = l1 ++ [now].flatMap fun v => le 8 (u64 v) := ⟨_, rfl⟩;rw [<- hl2] at hl;have hn2 : l2.length = 24 := by rw [hl2, List.length_append, hn1]; simp only [List.flatMap_cons, List.flatMap_nil, List.length_append, Jaz, List.length_nil]
 have HL2 := zI hl;have HE2 := zI hl2;clear hl hl2 hn1 HQ HXk x0;have HQ := zI (HL2.out.text PS (by omega) (by rw [HPS.out]; omega));go_upto_region 11 with (go_at_call 205; refine HQ.out.mono ?_; rintro e w13 ⟨rfl, hl⟩)
 obtain ⟨l3, hl3⟩ : ∃ l, l = l2 ++ txB PS.toList := ⟨_, rfl⟩;rw [<- hl3] at hl;have hn3 : l3.length = 26 + pn := by rw [hl3, List.length_append, hn2, HPT.out, HPL.out]; omega
 have HL3 := zI hl;have HE3 := zI hl3;clear hl hl3 hn2 HQ ;have HXk := zI (HL3.out.bx HX3.out);have x0 := HXk.out.at_ 5 (v := .slice B n c2) rfl;have HQ := zI (HL3.out.ints_old B n c2 fl HF3.out hn1 (by omega));go_upto_region 12 with (go_at_call 196; refine HQ.out.mono ?_; rintro e w14 ⟨rfl, hl⟩)
 obtain ⟨l4, hl4⟩ : ∃ l, l = l3 ++ fl.flatMap fun v => le 8 (u64 v) := ⟨_, rfl⟩;rw [<- hl4] at hl;have hn4 : l4.length = 26 + pn + 8 * n := by rw [hl4, List.length_append, hn3, HFN.out]
 have HL4 := zI hl;have HE4 := zI hl4;clear hl hl4 hn3 HQ HXk x0;have HQ := zI (HL4.out.text ByteArray.empty (by omega) (by decide));go_upto_region 13 with (go_at_call 205; refine HQ.out.mono ?_; rintro e w15 ⟨rfl, hl⟩)
 obtain ⟨l5, hl5⟩ : ∃ l, l = l4 ++ txB ByteArray.empty.toList := ⟨_, rfl⟩;rw [<- hl5] at hl;have hn5 : l5.length = 28 + pn + 8 * n := by rw [hl5, List.length_append, hn4, HEM.out]; omega
 have HL5 := zI hl;have HE5 := zI hl5;clear hl hl5 hn4 HQ ;have HXk := zI (HL5.out.bx HX3.out);have x0 := HXk.out.at_ 8 (v := .slice none 0 0) rfl;have HQ := zI (HL5.out.small_nil 1 (.inl rfl) (by omega));go_upto_region 14 with (go_at_call 206; refine HQ.out.mono ?_; rintro e w16 ⟨rfl, hl⟩)
 obtain ⟨l6, hl6⟩ : ∃ l, l = l5 := ⟨_, rfl⟩;rw [<- hl6] at hl;have hn6 : l6.length = 28 + pn + 8 * n := by rw [hl6, hn5]
 have HL6 := zI hl;have HE6 := zI hl6;clear hl hl6 hn5 HQ HXk x0;have HXk := zI (HL6.out.bx HX3.out);have x0 := HXk.out.at_ 9 (v := .int .i64 0) rfl;have x1 := HXk.out.at_ 10 (v := .int .i64 0) rfl;have HQ := zI (HL6.out.ints [0, 0] 2 2 #[.int .i64 0, .int .i64 0] rfl rfl (by omega));go_upto_region 15 with (go_at_call 196; refine HQ.out.mono ?_; rintro e w17 ⟨rfl, hl⟩)
 obtain ⟨l7, hl7⟩ : ∃ l, l = l6 ++ [0, 0].flatMap fun v => le 8 (u64 v) := ⟨_, rfl⟩;rw [<- hl7] at hl;have hn7 : l7.length = 44 + pn + 8 * n := by rw [hl7, List.length_append, hn6]; simp only [List.flatMap_cons, List.flatMap_nil, List.length_append, Jaz, List.length_nil]; omega
 have HL7 := zI hl;have HE7 := zI hl7;clear hl hl7 hn6 HQ HXk x0 x1;have HXk := zI (HL7.out.bx HX3.out);have x0 := HXk.out.at_ 11 (v := .slice E en ec) rfl;have HQ := zI (HL7.out.small 2 (.inr (.inl rfl)) [en] (by intro v hv; rw [List.mem_singleton.1 hv]; omega) 1 1 #[.int .i64 (en : Int)] rfl rfl (by omega));go_upto_region 16 with (go_at_call 206; refine HQ.out.mono ?_; rintro e w18 ⟨rfl, hl⟩)
 obtain ⟨l8, hl8⟩ : ∃ l, l = l7 ++ [en].flatMap (le 2) := ⟨_, rfl⟩;rw [<- hl8] at hl;have hn8 : l8.length = 46 + pn + 8 * n := by rw [hl8, List.length_append, hn7]; simp only [List.flatMap_cons, List.flatMap_nil, List.length_append, Jaz, List.length_nil]; omega
 have HL8 := zI hl;have HE8 := zI hl8;clear hl hl8 hn7 HQ HXk x0
 have HET := zI (show l8 = catH g i now P fl en from by
  rw [HE8.out, HE7.out, HE6.out, HE5.out, HE4.out, HE3.out, HE2.out, HE1.out, HE0.out, HPT.out];unfold catH;rw [show ByteArray.empty.toList = [] from by rw [ByteArray.toList_eq]; rfl];simp only [List.flatMap_cons, List.flatMap_nil, List.nil_append, List.append_nil, List.append_assoc])
 clear HE8 HE7 HE6 HE5 HE4 HE3 HE2 HE1 HE0 HL7 HL6 HL5 HL4 HL3 HL2 HL1 HL0;have HSE := zI HC3.out.hes;have HLN := zI HC3.out.hes.len;have HOK := zI HC3.out.hok;have HIB := zI HC3.out.hi;rw [HET.out] at HL8;have HXk := zI (HL8.out.bx HX3.out);have x0 := HXk.out.at_ 11 (v := .slice E en ec) rfl;go_wp2_with fail
 clear x0 HXk;obtain ⟨wo, hwo⟩ : ∃ wo : World, wo = w18 := ⟨_, rfl⟩;rw [<- hwo] at HL8 ⊢;clear hwo;go_loopw [61] (fun j wr => ∃ k : Nat, k <= en /\ j = .int .i64 (k : Int) /\ LayW w3 wr gp (catH g i now P fl en ++ ((ms.map Em.e).take k).flatMap enB)) (fun j _ => en - (intOf j).toNat)
 case atStart => exact ⟨0, Nat.zero_le _, rfl, by simpa using HL8.out⟩
 case round =>
  obtain ⟨k, hk, rfl, hL⟩ := hrel;by_cases hlt : k < en
  · have K : k < ms.length := by rw [HLN.out]; exact hlt
    obtain ⟨b, off, rfl, hbl, hcl⟩ := (HSE.out.below hL.below).get K;have HOX := zI (HOK.out _ (List.getElem_mem K));have HRX := zI ((HSE.out.row _ (List.getElem_mem K)).1)
    have HN1 := zI (show catH g i now P fl en ++ ((ms.map Em.e).take (k + 1)).flatMap enB = catH g i now P fl en ++ ((ms.map Em.e).take k).flatMap enB ++ enB ms[k].e from by
     rw [List.take_succ_eq_append_getElem (by simpa using K), List.flatMap_append, List.flatMap_cons, List.flatMap_nil, List.append_nil, List.getElem_map, List.append_assoc])
    have HNL := zI (show (catH g i now P fl en ++ ((ms.map Em.e).take k).flatMap enB).length + (enB ms[k].e).length <= 40000 from by
     rw [<- List.length_append, <- HN1.out];refine Nat.le_trans ?_ HTL.out;unfold catB;rw [List.length_map, HLN.out, List.length_append, List.length_append]
     have : (((ms.map Em.e).take (k + 1)).flatMap enB).length <= ((ms.map Em.e).flatMap enB).length := by
      conv => rhs; rw [<- List.take_append_drop (k + 1) (ms.map Em.e), List.flatMap_append, List.length_append]
      omega
     omega)
    generalize ms[k]'K = x at *;generalize catH g i now P fl en ++ ((ms.map Em.e).take k).flatMap enB = m0 at *;obtain ⟨⟨id, tier, shard, bl⟩, A5, c5⟩ := x;obtain ⟨r0, r1, r2, r3, r4, r5⟩ := hcl;dsimp only at r0 r1 r2 r3 r4 r5 HOX HRX HN1 HNL;obtain ⟨m, hm⟩ : ∃ m, m = bl.length := ⟨_, rfl⟩;rw [<- hm] at r4 r5 HRX;have HM := zI hm;have hml : 1 <= m /\ m <= 4096 := by rw [hm]; exact HOX.out.len
    have htr : tier <= 9 := HOX.out.tier;have hsd : shard <= 7 := HOX.out.shard;have hid : id <= i := HOX.out.id.2;have hib := HIB.out
    have hm0 : m0.length + (12 + 2 * m) <= 40000 := by
     have := HNL.out;unfold enB at this;simp only [List.length_append, Jaz] at this;rw [Jem (fun b : Int => le 2 b.toNat) 2 (fun a => Jaz 2 _), <- HM.out] at this;omega
    have hba := (Below.refl wr.heap.size wr).alloc (Nat.le_refl _) (.cells #[.int .u64 (id : Int), .int .i64 (tier : Int), .int .i64 (shard : Int), .int .i64 0, .int .i64 (m : Int), .slice A5 m c5] 139);have hbx := Bx.new wr 139 #[.int .u64 (id : Int), .int .i64 (tier : Int), .int .i64 (shard : Int), .int .i64 0, .int .i64 (m : Int), .slice A5 m c5];have hLe := hL.then_below hba;obtain ⟨gb, hgb⟩ : ∃ gb, gb = wr.heap.size := ⟨_, rfl⟩;obtain ⟨we, hwe⟩ : ∃ we, we = wr.alloc (.cells #[.int .u64 (id : Int), .int .i64 (tier : Int), .int .i64 (shard : Int), .int .i64 0, .int .i64 (m : Int), .slice A5 m c5] 139) := ⟨_, rfl⟩;rw [<- hwe] at hbx hLe;rw [<- hgb] at hbx;have HGP := zI (show gb ≠ gp from by rw [hgb]; have := hL.lt; omega);have HLe := zI hLe;have HXe := zI hbx;have HWE := zI hwe;have HGB := zI hgb;clear hm hL hba hbx hLe hwe hgb;go_upto_region 19 with fail
    rw [<- HWE.out, <- HGB.out];clear r0 r1 r2 r3 r4 r5;have y0 := HXe.out.at_ 0 (v := .int .u64 (id : Int)) rfl;have HQ := zI (HLe.out.wordsK [id] 1 1 #[.int .u64 (id : Int)] rfl rfl (by omega));go_upto_region 20 with (go_at_call 195; refine HQ.out.mono ?_; rintro e wf ⟨rfl, hl, hk'⟩)
    have HXf := zI (hk' _ _ _ HGP.out (by decide) HXe.out);have HLf := zI hl;clear y0 HQ hl hk';have y1 := HXf.out.at_ 1 (v := .int .i64 (tier : Int)) rfl;have y2 := HXf.out.at_ 2 (v := .int .i64 (shard : Int)) rfl;have HQ := zI (HLf.out.smallK 1 (.inl rfl) [tier, shard] (by intro v hv; simp at hv; rcases hv with rfl | rfl <;> omega) 2 2 #[.int .i64 (tier : Int), .int .i64 (shard : Int)] rfl rfl (by rw [List.length_append]; simp only [List.flatMap_cons, List.flatMap_nil, List.length_append, Jaz, List.length_nil]; omega))
    go_upto_region 21 with (go_at_call 206; refine HQ.out.mono ?_; rintro e wg ⟨rfl, hl, hk'⟩)
    have HXg := zI (hk' _ _ _ HGP.out (by decide) HXf.out);have HLg := zI hl;clear y1 y2 HQ hl hk';have y5 := HXg.out.at_ 5 (v := .slice A5 m c5) rfl;have HQ := zI (HLg.out.smallK 2 (.inr (.inl rfl)) [m] (by intro v hv; rw [List.mem_singleton.1 hv]; omega) 1 1 #[.int .i64 (m : Int)] rfl rfl (by simp only [List.flatMap_cons, List.flatMap_nil, List.length_append, Jaz, List.length_nil]; omega));go_upto_region 22 with (go_at_call 206; refine HQ.out.mono ?_; rintro e wh ⟨rfl, hl, hk'⟩)
    have HXh := zI (hk' _ _ _ HGP.out (by decide) HXg.out);have HLh := zI hl;clear y5 HQ hl hk';have y5 := HXh.out.at_ 5 (v := .slice A5 m c5) rfl;have HQ := zI (HLh.out.small_old 2 (.inr (.inl rfl)) A5 m c5 bl HRX.out hml.1 (fun v hv => by have := HOX.out.bl v hv; omega) (by simp only [List.flatMap_cons, List.flatMap_nil, List.length_append, Jaz, List.length_nil]; omega));go_upto_region 23 with (go_at_call 206; refine HQ.out.mono ?_; rintro e wi ⟨rfl, hl⟩)
    have HLi := zI hl
    have HEQ := zI (show m0 ++ [id].flatMap (le 8) ++ [tier, shard].flatMap (le 1) ++ [m].flatMap (le 2) ++ (bl.flatMap fun v => le 2 v.toNat) = catH g i now P fl en ++ ((ms.map Em.e).take (k + 1)).flatMap enB from by
     rw [HN1.out];unfold enB;dsimp only;rw [<- HM.out];simp only [List.flatMap_cons, List.flatMap_nil, List.append_nil, List.append_assoc])
    rw [HEQ.out] at HLi;clear y5 HQ hl;go_wp2_with fail
    go_roundw
    case rel => exact ⟨k + 1, by omega, by go_num, HLi.out⟩
    case measure => simp [intOf]; omega
  · have hke : k = en := by omega
    have HTE := zI (show catH g i now P fl en ++ ((ms.map Em.e).take k).flatMap enB = catB g i now P fl (ms.map Em.e) from by
     unfold catB;rw [List.take_of_length_le (by rw [List.length_map, HLN.out]; omega), List.length_map, HLN.out])
    rw [HTE.out] at hL;have hlen := HTL.out;generalize hTT : catB g i now P fl (ms.map Em.e) = T at *;have HTT := zI (show T = catB g i now (Py.printL nm.toList ts) fl (ms.map Em.e) from by rw [HPP.out]; exact hTT.symm);clear hTT;have HLN2 := zI hL.len;have HDN := zI hL.done;have HBE := zI (HB3.out.trans (hL.below.mono HB3.out.size));have d1 : decide ((40000 : Int) < (T.length : Int)) = false := decide_eq_false (by omega);have d2 : ¬ (40000 < T.length) := (by omega);clear hL;go_wp2_with fail
    refine HLN2.out.mono ?_;rintro e wj ⟨rfl, hw⟩;subst hw;go_wp2_with fail
    refine HDN.out.mono ?_;rintro e wj ⟨rfl, hw⟩;subst hw;go_wp2_with fail
    go_ret2;rw [<- HTT.out];exact ⟨rfl, HBE.out⟩
def blB (l : List Int) : List UInt8 := l.flatMap fun b => le 2 b.toNat
theorem Jqt (l : List Int) : (blB l).length = 2 * l.length := by unfold blB; rw [Jem (fun b : Int => le 2 b.toNat) 2 (fun a => Jaz 2 _)]
theorem Jj7 (e : En) (r : List UInt8) : enB e ++ r = le 8 e.id ++ (le 1 e.tier ++ (le 1 e.shard ++ (le 2 e.bl.length ++ (blB e.bl ++ r)))) := by unfold enB blB; simp only [List.append_assoc]
theorem J4f (e : En) : (enB e).length = 12 + 2 * e.bl.length := by
 have := congrArg List.length (Jj7 e []);simp only [List.length_append, Jaz, Jqt, List.length_nil, Nat.add_zero] at this;omega
structure En.Fit (x : En) : Prop where
 id : x.id < 18446744073709551616
 tier : x.tier <= 9
 shard : x.shard <= 7
 len : x.bl.length <= 4096
 bl : ∀ b ∈ x.bl, 0 <= b /\ b <= 4095
structure EnRd (w wr : World) (g : Nat) (ms : List Em) (v : Value) : Prop where
 chg : Chg (fun b => b = g) w wr
 own : wr.ownsRow w.heap.size 139 6 v ms.length (ms.flatMap Em.cells)
 row : ∀ m ∈ ms, wr.ownsRow w.heap.size 3 1 (.slice m.A m.e.bl.length m.c) m.e.bl.length (m.e.bl.map (Value.int .i64))
section
variable {w wr w' : World} {g : Nat} {ms : List Em} {v v' : Value}
theorem Jyi {wr : World} {B : Nat} {e : TypeId} {k n : Nat} {v : Value} {xs : List Value} (h : wr.ownsRow B e k v n xs) {g : Nat} (hg : g < B) : ∀ b, v.ownBlock = some b -> ¬ b = g := fun b hb e => by have := (h.lt b hb).1; omega
theorem EnRd.step (h : EnRd w wr g ms v) (hc : Chg (fun b => b = g) wr w') (hg : g < w.heap.size) : EnRd w w' g ms v :=
 ⟨h.chg.trans hc (fun _ x => .inl x), Jaw h.own hc (fun b hb e => by have := (h.own.lt b hb).1; omega), fun m hm => Jaw (h.row m hm) hc (fun b hb e => by have := ((h.row m hm).lt b hb).1; omega)⟩
theorem EnRd.snoc (h : EnRd w wr g ms v) (m : Em) (hm : wr.ownsRow w.heap.size 3 1 (.slice m.A m.e.bl.length m.c) m.e.bl.length (m.e.bl.map (Value.int .i64)))
  (hg : wr.grownBy w' v.ownBlock) (ho : w'.ownsRow w.heap.size 139 6 v' (ms.length + 1) (ms.flatMap Em.cells ++ m.cells)) : EnRd w w' g (ms ++ [m]) v' := by
 refine ⟨h.chg.trans (Chg.of_grown (F := fun b => v.ownBlock = some b) hg (fun b e => e)) (fun b hb => .inr (h.own.lt b hb).1), ?_, fun x hx => ?_⟩
 · rw [List.length_append, List.flatMap_append]
   simpa using ho
 · have key : ∀ y : Em, wr.ownsRow w.heap.size 3 1 (.slice y.A y.e.bl.length y.c) y.e.bl.length (y.e.bl.map (Value.int .i64)) -> w'.ownsRow w.heap.size 3 1 (.slice y.A y.e.bl.length y.c) y.e.bl.length (y.e.bl.map (Value.int .i64)) := fun y hy =>
    hy.kept hg (Jgw hy h.own (by decide))
   rcases List.mem_append.1 hx with hx | hx
   · exact key x (h.row x hx)
   · rw [List.mem_singleton.1 hx]; exact key m hm
end
structure EnQ (wr wq : World) (g gb id tier shard m q : Nat) (A : Option Addr) (c : Nat) (zs : List Int) : Prop where
 chg : Chg (fun b => b = g) wr wq
 box : Bx wq gb 139 #[.int .u64 (id : Int), .int .i64 (tier : Int), .int .i64 (shard : Int), .int .i64 0, .int .i64 (m : Int), .slice A q c]
 row : wq.ownsRow wr.heap.size 3 1 (.slice A q c) q (zs.map (Value.int .i64))
 low : wr.heap.size <= gb
theorem EnQ.read {wr wq w' : World} {g gb id tier shard m q : Nat} {A : Option Addr} {c : Nat} {zs : List Int} (h : EnQ wr wq g gb id tier shard m q A c zs) (hg : wq.grownBy w' (some g)) (hlt : g < wr.heap.size) : EnQ wr w' g gb id tier shard m q A c zs :=
 have hc : Chg (fun b => b = g) wq w' := Chg.of_grown hg (fun b e => by cases e; rfl)
 ⟨h.chg.trans hc (fun _ x => .inl x), h.box.chg hc (by have := h.low; omega), Jaw h.row hc (Jyi h.row hlt), h.low⟩
theorem EnQ.below {wr wq w' : World} {g gb id tier shard m q : Nat} {A : Option Addr} {c : Nat} {zs : List Int} (h : EnQ wr wq g gb id tier shard m q A c zs) (hb : Below wq.heap.size wq w') : EnQ wr w' g gb id tier shard m q A c zs :=
 ⟨h.chg.then_below hb, h.box.below hb, Jaj h.row hb, h.low⟩
theorem EnQ.put {wr wq w1 : World} {g gb id tier shard m q : Nat} {A A' : Option Addr} {c c' : Nat} {zs : List Int} {z : Int} (h : EnQ wr wq g gb id tier shard m q A c zs) (hg : wq.grownBy w1 (Value.slice A q c).ownBlock) (ho : w1.ownsRow wr.heap.size 3 1 (.slice A' (q + 1) c') (q + 1) (zs.map (Value.int .i64) ++ [.int .i64 z])) :
  EnQ wr (w1.setCell ⟨gb, 5, none⟩ (.slice A' (q + 1) c')) g gb id tier shard m (q + 1) A' c' (zs ++ [z]) := by
 have hx := h.box.grown hg (h.box.not_row h.row (by decide));have hs := Jai w1 gb 5 (.slice A' (q + 1) c');refine ⟨?_, hx.set 5 _, ?_, h.low⟩
 · exact (h.chg.trans (Chg.of_grown (F := fun b => (Value.slice A q c).ownBlock = some b) hg (fun b e => e)) (fun b e => .inr (h.row.lt b e).1)).trans (Chg.of_grown (F := fun b => b = gb) hs (fun b e => by cases e; rfl)) (fun b e => .inr (by rw [e]; exact h.low))
 · rw [List.map_append]
   exact ho.kept hs (.inr fun e => (hx.not_row ho (by decide)) e.symm)
theorem Jqu (g : Nat) (es : List En) (r : List UInt8) (w : World) (h : UnAt w g (le 2 es.length ++ (es.flatMap enB ++ r))) (hf : ∀ e ∈ es, e.Fit) (hn : es.length <= 90) (hl : (es.flatMap enB ++ r).length <= 800000) :
  Calls Tryz.prog 132 #[.pointer (some ⟨g, 0, none⟩)] w fun e w' => ∃ v ms, e = .returned v /\ ms.map Em.e = es /\ EnRd w w' g ms v /\ UnAt w' g r := by
 have hlt : g < w.heap.size := h.bx.lt;have HF := zI hf;have HS := zI (Jck g 2 es.length (es.flatMap enB ++ r) w h (.inr (.inl rfl)) (by omega) (by omega))
 have HBL := zI (show ∀ k, ((es.drop k).flatMap enB ++ r).length <= 800000 from fun k => by
  refine Nat.le_trans ?_ hl;rw [List.length_append, List.length_append]
  conv => rhs; rw [<- List.take_append_drop k es, List.flatMap_append, List.length_append]
  omega)
 obtain ⟨n, hnn⟩ : ∃ n, n = es.length := ⟨_, rfl⟩;rw [<- hnn] at hn HS;have HN := zI hnn;clear h hf hl hnn;go_enter Tryz.func132, Tryz.ntmps132;go_wp2_with fail
 refine HS.out.mono ?_;rintro e w1 ⟨rfl, hu1, hg1⟩;have HU1 := zI hu1;have HR1 := zI (show EnRd w w1 g [] (.slice none 0 0) from ⟨Chg.of_grown hg1 (fun b e => by cases e; rfl), World.ownsRow_nil _ _ _ _, fun m hm => by cases hm⟩);clear hu1 hg1;go_wp2_with fail
 go_loopw [3, 4] (fun v j wr => ∃ (k d : Nat) (ms : List Em), k + d = n /\ j = .int .i64 (d : Int) /\ ms.map Em.e = es.take k /\ EnRd w wr g ms v /\ UnAt wr g ((es.drop k).flatMap enB ++ r)) (fun _ j _ => (intOf j).toNat)
 case atStart => exact ⟨0, n, [], Nat.zero_add _, rfl, rfl, HR1.out, HU1.out⟩
 case round =>
  obtain ⟨k, d, ms, hk, rfl, hms, hR, hU⟩ := hrel;have HBD := zI (Jqp g _ wr hU);by_cases hlk : k < n
  · obtain ⟨d', rfl⟩ : ∃ d', d = d' + 1 := ⟨d - 1, by omega⟩
    have K : k < es.length := by rw [<- HN.out]; exact hlk
    have HD := zI (show (es.drop k).flatMap enB ++ r = enB es[k] ++ ((es.drop (k + 1)).flatMap enB ++ r) from by rw [List.drop_eq_getElem_cons K, List.flatMap_cons, List.append_assoc]);have HFX := zI (HF.out _ (List.getElem_mem K));have HTK := zI (show es.take (k + 1) = es.take k ++ [es[k]] from List.take_succ_eq_append_getElem K);have HLX := zI (HBL.out k);have d0 : decide ((0 : Int) < (d' : Int) + 1) = true := decide_eq_true (by omega);rw [HD.out] at hU HLX;generalize es[k]'K = x at *;obtain ⟨R, hR0⟩ : ∃ R, R = (es.drop (k + 1)).flatMap enB ++ r := ⟨_, rfl⟩;rw [<- hR0] at hU HLX;have HR0 := zI hR0;clear hR0;rw [Jj7] at hU;rw [Jj7] at HLX;obtain ⟨R4, hR4⟩ : ∃ R4, R4 = blB x.bl ++ R := ⟨_, rfl⟩;obtain ⟨R3, hR3⟩ : ∃ R3, R3 = le 2 x.bl.length ++ R4 := ⟨_, rfl⟩;obtain ⟨R2, hR2⟩ : ∃ R2, R2 = le 1 x.shard ++ R3 := ⟨_, rfl⟩;obtain ⟨R1, hR1⟩ : ∃ R1, R1 = le 1 x.tier ++ R2 := ⟨_, rfl⟩;rw [<- hR4, <- hR3, <- hR2, <- hR1] at hU HLX;have hl1 : R1.length <= 800000 := by have := HLX.out; rw [List.length_append] at this; omega
    have hl2 : R2.length <= 800000 := by rw [hR1, List.length_append] at hl1; omega
    have hl3 : R3.length <= 800000 := by rw [hR2, List.length_append] at hl2; omega
    have hl4 : R4.length <= 800000 := by rw [hR3, List.length_append] at hl3; omega
    have HL2 := zI hl2;have HL3 := zI hl3;have HL4 := zI hl4;have HR1 := zI hR1;have HR2 := zI hR2;have HR3 := zI hR3;have HR4 := zI hR4;have HW := zI (Jhd g x.id R1 wr hU HFX.out.id (by omega));have HRD := zI hR;have HMS := zI hms;clear hU hR hms hl1 hl2 hl3 hl4 hR1 hR2 hR3 hR4;go_wp2_with fail
    refine HBD.out.mono ?_;rintro e w2 ⟨rfl, hw⟩;subst hw;go_wp2_with fail
    refine HW.out.mono ?_;rintro e w2 ⟨rfl, hu2, hg2⟩;rw [HR1.out] at hu2;have HT := zI (Jck g 1 x.tier R2 w2 hu2 (.inl rfl) (by have := HFX.out.tier; omega) (by have := HL2.out; omega));have HC2 := zI (Chg.of_grown (F := fun b => b = g) hg2 (fun b e => by cases e; rfl));clear hu2 hg2;go_wp2_with fail
    refine HT.out.mono ?_;rintro e w3 ⟨rfl, hu3, hg3⟩;rw [HR2.out] at hu3;have HSD := zI (Jck g 1 x.shard R3 w3 hu3 (.inl rfl) (by have := HFX.out.shard; omega) (by have := HL3.out; omega));have HC3 := zI (HC2.out.trans (Chg.of_grown (F := fun b => b = g) hg3 (fun b e => by cases e; rfl)) (fun _ x => .inl x));clear hu3 hg3;go_wp2_with fail
    refine HSD.out.mono ?_;rintro e w4 ⟨rfl, hu4, hg4⟩;rw [HR3.out] at hu4;have hc4 := HC3.out.trans (Chg.of_grown (F := fun b => b = g) hg4 (fun b e => by cases e; rfl)) (fun _ x => .inl x);have hba := (Below.refl w4.heap.size w4).alloc (Nat.le_refl _) (.cells #[.int .u64 (x.id : Int), .int .i64 (x.tier : Int), .int .i64 (x.shard : Int), .int .i64 0, .int .i64 0, .slice none 0 0] 139);have hbx := Bx.new w4 139 #[.int .u64 (x.id : Int), .int .i64 (x.tier : Int), .int .i64 (x.shard : Int), .int .i64 0, .int .i64 0, .slice none 0 0];obtain ⟨gb, hgb⟩ : ∃ gb, gb = w4.heap.size := ⟨_, rfl⟩;obtain ⟨w5, hw5⟩ : ∃ w5, w5 = w4.alloc (.cells #[.int .u64 (x.id : Int), .int .i64 (x.tier : Int), .int .i64 (x.shard : Int), .int .i64 0, .int .i64 0, .slice none 0 0] 139) := ⟨_, rfl⟩;have HGB := zI hgb;have HW5 := zI hw5;rw [<- hw5] at hba hbx;rw [<- hgb] at hbx;obtain ⟨m, hm⟩ : ∃ m, m = x.bl.length := ⟨_, rfl⟩;have HM := zI hm;have hu5 := hu4.below hba;rw [<- hm] at hu5;have HN5 := zI (Jck g 2 m R4 w5 hu5 (.inr (.inl rfl)) (by have := HFX.out.len; omega) (by have := HL4.out; omega));have HX5 := zI hbx;have HC5 := zI (hc4.then_below hba);have HGL := zI (show wr.heap.size <= gb from by rw [hgb]; exact hc4.size);clear hu4 hg4 hc4 hba hbx hgb hw5 hm hu5;go_upto_region 6 with fail
    rw [<- HW5.out];rw [<- HGB.out];go_wp2_with fail
    refine HN5.out.mono ?_;rintro e w6 ⟨rfl, hu6, hg6⟩;have hgl := HGL.out;have hws := HRD.out.chg.size;have hx6 := HX5.out.grown hg6 (by simp; omega);have x4 := hx6.at_ 4 (v := .int .i64 0) rfl;have f4 := hx6.free 4
    have HE7 := zI (show EnQ wr (w6.setCell ⟨gb, 4, none⟩ (.int .i64 (m : Int))) g gb x.id x.tier x.shard m 0 none 0 [] from
     ⟨(HC5.out.trans (Chg.of_grown (F := fun b => b = g) hg6 (fun b e => by cases e; rfl)) (fun _ x => .inl x)).trans (Chg.set (F := fun b => b = gb) w6 ⟨gb, 4, none⟩ _ rfl) (fun b e => .inr (by rw [e]; exact hgl)), hx6.set 4 _, World.ownsRow_nil _ _ _ _, hgl⟩)
    have HU7 := zI (show UnAt (w6.setCell ⟨gb, 4, none⟩ (.int .i64 (m : Int))) g (blB x.bl ++ R) from ⟨by have := hu6.bx.other (p := ⟨gb, 4, none⟩) (by show g ≠ gb; omega) (.int .i64 (m : Int)); rw [HR4.out] at this; exact this⟩);have HMB := zI HFX.out.len;have hm4 : m <= 4096 := by rw [HM.out]; exact HFX.out.len
    clear hu6 hg6 hx6 HN5 HX5 HC5 HT HW HSD HC2 HC3;go_wp2_with fail
    obtain ⟨w7, hw7⟩ : ∃ w7, w7 = w6.setCell ⟨gb, 4, none⟩ (.int .i64 (m : Int)) := ⟨_, rfl⟩;rw [<- hw7] at HE7 HU7 ⊢;clear hw7 x4 f4;obtain ⟨wo, hwo⟩ : ∃ wo : World, wo = wr := ⟨_, rfl⟩;rw [<- hwo] at HE7 HRD hgl hws HGL;clear hwo;go_loopw [6] (fun j wq => ∃ (q : Nat) (A : Option Addr) (c : Nat), q <= m /\ j = .int .i64 (q : Int) /\ EnQ wo wq g gb x.id x.tier x.shard m q A c (x.bl.take q) /\ UnAt wq g (blB (x.bl.drop q) ++ R)) (fun j _ => m - (intOf j).toNat)
    case atStart => exact ⟨0, none, 0, Nat.zero_le _, rfl, HE7.out, HU7.out⟩
    case round =>
     obtain ⟨q, A, c, hq, rfl, hE, hU⟩ := hrel;have t4 := hE.box.at_ 4 (v := .int .i64 (m : Int)) rfl;by_cases hlq : q < m
     · have Q : q < x.bl.length := by rw [<- HM.out]; exact hlq
       have HBD2 := zI (Jqp g _ wr hU);have HTQ := zI (show x.bl.take (q + 1) = x.bl.take q ++ [x.bl[q]] from List.take_succ_eq_append_getElem Q)
       have HDQ := zI (show blB (x.bl.drop q) ++ R = le 2 (x.bl[q]).toNat ++ (blB (x.bl.drop (q + 1)) ++ R) from by
        rw [List.drop_eq_getElem_cons Q];unfold blB;rw [List.flatMap_cons, List.append_assoc])
       have HLQ := zI (show (blB (x.bl.drop (q + 1)) ++ R).length <= 800000 from by
        have h4 := HL4.out;rw [HR4.out, List.length_append, Jqt] at h4;rw [List.length_append, Jqt, List.length_drop];omega)
       have HZ := HFX.out.bl _ (List.getElem_mem Q);rw [HDQ.out] at hU;generalize x.bl[q]'Q = z at *;obtain ⟨z', rfl⟩ : ∃ z' : Nat, z = (z' : Int) := ⟨z.toNat, by omega⟩;rw [Int.toNat_natCast] at hU;obtain ⟨RR, hRR⟩ : ∃ RR, RR = blB (x.bl.drop (q + 1)) ++ R := ⟨_, rfl⟩;rw [<- hRR] at hU HLQ;have HRR := zI hRR;clear hRR;have hdr := (Below.refl wr.heap.size wr).drew;have HED := zI (hE.below hdr);have HUD := zI (hU.below hdr);have t5 := hE.box.at_ 5 (v := .slice A q c) rfl;have t5' := HED.out.box.at_ 5 (v := .slice A q c) rfl;have HSM := zI (Jck g 2 z' RR wr.drew HUD.out (.inr (.inl rfl)) (by omega) (by have := HLQ.out; omega));have HQK := zI (show q + 1 <= 1000000 from by omega);have HGW := zI (show g < wo.heap.size from by omega);clear hE hU hdr;go_wp2_with fail
       refine HBD2.out.mono ?_;rintro e w8 ⟨rfl, hw⟩;subst hw;go_wp2_with fail
       go_region_law (first
        | (refine Jvw (by rfl) _ _ (by rfl) HE9.out.row (by rfl) (some ⟨w8.heap.size, 0, none⟩) 1 1 [.int .i64 (z' : Int)] (by rfl) rfl HSL.out HON.out HQK.out HBS.out ?_
           intro A7 c7 w9 ho9 hg9;have X9 := zI (HE9.out.box.grown hg9 (HE9.out.box.not_row HE9.out.row (by decide)));have U9 := zI (HU9.out.bx.grown hg9 (HU9.out.bx.not_row HE9.out.row (by decide)));have d8 := X9.out.at_ 5 (v := .slice A q c) rfl;have f8 := X9.out.free 5)
        | (go_simp
           go_at_call 131
           refine HSM.out.mono ?_;rintro e w8 ⟨rfl, hu8, hg8⟩;have hba8 := (Below.refl w8.heap.size w8).alloc (Nat.le_refl _) (.cells #[.int .i64 (z' : Int)] 3);have HE8 := zI (HED.out.read hg8 HGW.out);have HE9 := zI (HE8.out.below hba8);have HU9 := zI (hu8.below hba8);have HSL := zI (Sl.new w8 3 w8.heap.size [.int .i64 (z' : Int)] #[.int .i64 (z' : Int)] rfl rfl);have HON := zI (show ∀ u ∈ [Value.int .i64 (z' : Int)], u.oneCell' = true from by intro u hu; rw [List.mem_singleton.1 hu]; rfl);have HBS := zI (show wo.heap.size <= (w8.alloc (.cells #[.int .i64 (z' : Int)] 3)).heap.size from HE9.out.chg.size);have d6 := HE8.out.box.at_ 5 (v := .slice A q c) rfl;have d7 := HE9.out.box.at_ 5 (v := .slice A q c) rfl;clear hu8 hg8 hba8))
       all_goals
        have HEN := zI (HE9.out.put hg9 ho9);rw [<- HTQ.out] at HEN;have HUN := zI (show UnAt (w9.setCell ⟨gb, 5, none⟩ (.slice A7 (q + 1) c7)) g RR from ⟨U9.out.other (p := ⟨gb, 5, none⟩) (by show g ≠ gb; omega) _⟩);rw [HRR.out] at HUN;clear ho9 hg9;go_wp2_with fail
        go_roundw
        case rel => exact ⟨q + 1, A7, c7, by omega, by go_num, HEN.out, HUN.out⟩
        case measure => simp [intOf]; omega
     · have hqe : q = m := by omega
       subst hqe;have HTT := zI (show x.bl.take q = x.bl from by rw [HM.out, List.take_length]);have HDD := zI (show blB (x.bl.drop q) ++ R = R from by rw [HM.out, List.drop_length]; rfl);rw [HTT.out] at hE;rw [HDD.out] at hU;have hba := (Below.refl wr.heap.size wr).alloc (Nat.le_refl _) (.cells (Em.cells ⟨x, A, c⟩).toArray 139);have HEB := zI (hE.below hba);have HUB := zI (hU.below hba);have HRB := zI (HRD.out.step (hE.chg.then_below hba) hlt);have HCE := zI (show Em.cells ⟨x, A, c⟩ = [.int .u64 (x.id : Int), .int .i64 (x.tier : Int), .int .i64 (x.shard : Int), .int .i64 0, .int .i64 (q : Int), .slice A q c] from by unfold Em.cells; dsimp only; rw [<- HM.out]);have HSL := zI (Sl.new wr 139 wr.heap.size (Em.cells ⟨x, A, c⟩) (Em.cells ⟨x, A, c⟩).toArray rfl rfl);have HON := zI (Jww [⟨x, A, c⟩]);have HFC := zI (show ([⟨x, A, c⟩] : List Em).flatMap Em.cells = Em.cells ⟨x, A, c⟩ from by simp);rw [HFC.out] at HON;have t0 := hE.box.at_ 0 (v := .int .u64 (x.id : Int)) rfl;have t1 := hE.box.at_ 1 (v := .int .i64 (x.tier : Int)) rfl;have t2 := hE.box.at_ 2 (v := .int .i64 (x.shard : Int)) rfl;have t3 := hE.box.at_ 3 (v := .int .i64 0) rfl;have t5 := hE.box.at_ 5 (v := .slice A q c) rfl;have HMN := zI (show ms.length = k from by have := congrArg List.length HMS.out; rw [List.length_map, List.length_take] at this; omega);have HKK := zI (show ms.length + 1 <= 1000000 from by have := HMN.out; omega);have HWS := zI (show w.heap.size <= (wr.alloc (.cells (Em.cells ⟨x, A, c⟩).toArray 139)).heap.size from HRB.out.chg.size);have HL1 := zI (show (Em.cells ⟨x, A, c⟩).length = 1 * 6 from rfl);rw [HCE.out] at HRB HSL HON HEB HUB HWS HL1;clear hE hU hba;go_wp2_with (at_builtin; refine Jvy rfl _ _ rfl HRB.out.own rfl (some ⟨wr.heap.size, 0, none⟩) 1 1 _ rfl HL1.out HSL.out HON.out HKK.out HWS.out ?_; intro A' c' w5 ho5 hg5)
       have HRN := zI (HRB.out.snoc (v' := .slice A' (ms.length + 1) c') ⟨x, A, c⟩ (by dsimp only; rw [<- HM.out]; exact Jdp HEB.out.row hws) hg5 (by rw [HCE.out]; exact ho5));have HUN := zI (show UnAt w5 g R from ⟨HUB.out.bx.grown hg5 (HUB.out.bx.not_row HRB.out.own (by decide))⟩);rw [HR0.out] at HUN;clear ho5 hg5 t0 t1 t2 t3 t5 t4;go_wp2_with fail
       go_roundw
       case rel => exact ⟨k + 1, d', ms ++ [⟨x, A, c⟩], by omega, by go_num, by rw [List.map_append, HMS.out, HTK.out]; rfl, HRN.out, HUN.out⟩
       case measure => simp [intOf]
  · have hd0 : d = 0 := by omega
    subst hd0;have hke : k = n := (by omega);subst hke;have HTA := zI (show es.take k = es from by rw [HN.out, List.take_length]);have HDA := zI (show (es.drop k).flatMap enB ++ r = r from by rw [HN.out, List.drop_length]; rfl);rw [HDA.out] at hU;rw [HTA.out] at hms;have HRZ := zI hR;have HUZ := zI hU;have HMZ := zI hms;clear hR hU hms;go_wp2_with fail
    go_ret;exact ⟨_, ms, rfl, HMZ.out, HRZ.out, HUZ.out⟩
end Go.Proofs.YtalkkhafcfhglaaGreatDoor
