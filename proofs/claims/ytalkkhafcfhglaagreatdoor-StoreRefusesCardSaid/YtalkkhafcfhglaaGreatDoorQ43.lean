/-
  Several texts in one: Savf, Form, Supr, Walw, Walr, Open.
-/
import Derived.Test.YtalkkhafcfhglaaGreatDoorQ42
set_option maxRecDepth 100000
set_option maxHeartbeats 4000000
namespace Go.Proofs.YtalkkhafcfhglaaGreatDoor
open Go.RowKit
def savB (t : Tv) (gen : Nat) (v : SvV) : List UInt8 := catB gen v.id t.r.now (Py.printL t.r.nm.toList t.r.ts) t.r.all v.es
def savF (B N : Nat) (t : Tv) (gen : Nat) (v : SvV) : Int -> Option ByteArray :=
 setS (putN v.f (Jcb B gen) (chC (savB t gen v)) (nbC (savB t gen v))) ((gen % 2 : Nat) : Int) (strOf (suB gen N (savB t gen v).length))
structure Jj9 (w : World) (FB FD : Nat -> Prop) (gx N C B D R gd gen mp bk q gl : Nat) (v : SvV) (ps : List Pm) (t : Tv) : Prop where
 st : SvS w FB FD gx N C B D R gd gen v.id mp bk q ps.length (some ⟨gl, 0, none⟩) 0 (mapOf ps) (usOf ps) none (Jcy ps) none (savF B N t gen v)
 log : Jqw w gl ⟨gd, 0, none⟩ 2 16 gen
 es : ps.map Pm.e = v.es
theorem Jyo {FB FD FT : Nat -> Prop} {gx N C B D R gd gen id mp bk q nP gs : Nat} {lg : Option Addr} {us : List Int} {a b m : Option (List Int)} {f : Int -> Option ByteArray} {t : Tv} (w : World)
  (h : SvS w FB FD gx N C B D R gd gen id mp bk q nP lg 0 (fun _ _ => none) us a b m f) (hL : Jex N C B D R) (hS : StAt w FT gs R t) (hFT : ∀ x, FT x -> Apart FB FD gx w x) (hW : t.Want) (hV : WvOk (Jah t t.tabs.length)) (hG : Glo w)
  (hfit : ∀ v, SvG D N ⟨id, us, f, []⟩ (Jah t t.tabs.length) v -> Jhk (gen + 1) v.id t.r.now t.r.nm t.r.ts t.r.all v.es /\ (catB (gen + 1) v.id t.r.now (Py.printL t.r.nm.toList t.r.ts) t.r.all v.es).length <= C * 256)
  (hlow : gB <= gx /\ ∀ x, FB x \/ FD x -> gB <= x) (hid : id < 1000000) (hgen : gen < 1000000) (hroom : us.length + needW (Jah t t.tabs.length) <= N - D) (hq : q <= 500000) :
  Calls Tryz.prog 14 #[.pointer (some ⟨gx, 0, none⟩), .pointer (some ⟨gs, 0, none⟩)] w fun e w' => ∃ FB' FD' mp' bk' gl ps v q', e = .returned (.int .i64 0) /\ SvG D N ⟨id, us, f, []⟩ (Jah t t.tabs.length) v /\ q' <= q + 10000 /\
   Jj9 w' FB' FD' gx N C B D R gd (gen + 1) mp' bk' q' gl v ps t /\ SvT w w' FB FD FB' FD' gx /\ w.heap.size <= mp' /\ w.heap.size <= gl := by
 have hdr := (Below.refl w.heap.size w).drew;have hlow' : gB <= gx /\ ∀ x, FB x \/ FD x -> gB <= x := hlow;have HSV := zI (J4k w.drew (h.below hdr) hL (hS.below hdr) (fun x hx => by have h1 := hFT x hx; exact ⟨h1.1, h1.2.1, h1.2.2.1, h1.2.2.2⟩) hW hV (hG.below hdr) hfit hlow' hid hgen hroom hq);have HNN := zI (fun W (hW : Below w.heap.size w W) => Jhf (h.box.below hW));have HRO := zI (fun W (hW : Below w.heap.size w W) => Jb9 W (hS.below hW));have x6 := h.box.at_ 6 (v := .int .i64 (R : Int)) rfl;have y6 := (h.box.below hdr).at_ 6 (v := .int .i64 (R : Int)) rfl;have x13 := (h.box.below hdr).at_ 13 (v := .int .i64 0) rfl;clear h hL hS hFT hW hV hG hfit hlow hlow' hid hgen hroom hdr;go_enter Tryz.func14, Tryz.ntmps14;go_upto_region 1 with fail
 go_region_held3 (fun w' => w'.cell? ⟨gx, 6, none⟩ = some (.int .i64 (R : Int)) /\ Below w.heap.size w w')
  (exact ⟨y6, (Below.refl _ _).drew⟩)
  (first
    | (go_at_call 40
       refine (HNN.out _ ?hv).mono ?_
       case hv => (go_split_ands; assumption)
       rintro e w3 ⟨rfl, rfl⟩)
    | (go_at_call 13
       refine (HRO.out _ ?hv).mono ?_
       case hv => (go_split_ands; assumption)
       rintro e w3 ⟨rfl, rfl⟩))
 go_wp2_with fail
 refine HSV.out.mono ?_;rintro e w1 ⟨FB', FD', mp', bk', gl, ps, v, q', rfl, hg1, he1, hq1, hv1, hl1, ht1, hm1, hgl1⟩;have HM1 := zI (show w.heap.size <= mp' /\ w.heap.size <= gl from ⟨by simpa using hm1, by simpa using hgl1⟩);have y13 := hv1.box.at_ 13 (v := .int .i64 0) rfl;have f13 := hv1.box.free 13;have hv2 := hv1.boxed 13 (.int .i64 0) (gen' := gen + 1) (id' := v.id) (mp' := mp') (bk' := bk') (lg' := some ⟨gl, 0, none⟩) (bad' := 0) rfl rfl rfl;obtain ⟨w2, hw2⟩ : ∃ w2, w2 = w1.setCell ⟨gx, 13, none⟩ (.int .i64 0) := ⟨_, rfl⟩
 have hgl : gl ≠ gx := fun e => by
  have h1 := hl1.blk;have h2 := hv1.box.blk;rw [e] at h1;rw [h1] at h2;simp at h2
 have HLG : Hid (Jqw w2 gl ⟨gd, 0, none⟩ 2 16 (gen + 1)) := zI (by rw [hw2]; exact Bx.other hl1 (p := ⟨gx, 13, none⟩) hgl _);rw [<- hw2] at hv2;have HW2 := zI hw2;have HT2 := zI (((SvT.of_below FB FD gx (Below.refl w.heap.size w).drew).trans ht1).trans hv2.2);have HS2 := zI (show Jj9 w2 FB' FD' gx N C B D R gd (gen + 1) mp' bk' q' gl v ps t from ⟨hv2.1, HLG.out, he1⟩);have z13 := hv2.1.box.at_ 13 (v := .int .i64 0) rfl;have HG := zI hg1;have HQ := zI hq1;clear hg1 he1 hq1 hv1 hl1 ht1 hm1 hgl1 hv2 hw2 hgl x6 y6 x13;go_upto_region 6 with fail
 rw [<- HW2.out];clear y13 f13;go_wp2_with fail
 go_ret;exact ⟨FB', FD', mp', bk', gl, ps, v, q', rfl, HG.out, HQ.out, HS2.out, HT2.out, HM1.out.1, HM1.out.2⟩
theorem Jpo {F FT : Nat -> Prop} {gd N C B D R q gs : Nat} {f : Int -> Option ByteArray} {t : Tv} (w : World)
  (hD : DsAt w F gd N q f) (hL : Jex N C B D R) (hS : StAt w FT gs R t) (hFT : ∀ x, FT x -> ¬ F x) (hW : t.Want) (hV : WvOk (Jah t t.tabs.length)) (hG : Glo w)
  (hlow : ∀ x, F x -> gB <= x)
  (hfit : ∀ v, SvG D N ⟨0, [], Jm6 f 18, []⟩ (Jah t t.tabs.length) v -> Jhk (0 + 1) v.id t.r.now t.r.nm t.r.ts t.r.all v.es /\ (catB (0 + 1) v.id t.r.now (Py.printL t.r.nm.toList t.r.ts) t.r.all v.es).length <= C * 256)
  (hroom : needW (Jah t t.tabs.length) <= N - D) (hq : q <= 400000) :
  Calls Tryz.prog 8 #[.pointer (some ⟨gd, 0, none⟩), .pointer (some ⟨gs, 0, none⟩)] w fun e w' => ∃ gx FB' FD' mp bk gl ps v q', e = .returned (.tuple #[.pointer (some ⟨gx, 0, none⟩), .int .i64 0]) /\ SvG D N ⟨0, [], Jm6 f 18, []⟩ (Jah t t.tabs.length) v /\ q' <= q + 10100 /\
   Jj9 w' FB' FD' gx N C B D R gd 1 mp bk q' gl v ps t /\ w.heap.size <= gx /\ (∀ x, FB' x -> w.heap.size <= x) /\ (∀ x, FD' x -> grow F w w' x) /\ Chg F w w' /\ w.heap.size <= mp /\ w.heap.size <= gl := by
 have HBL := zI hD.blocks;have HPL := Jh2 N w hL.n.1 hL.n.2;rw [<- hL.d, <- hL.b, <- hL.c, <- hL.r] at HPL;have HPM := zI HPL;clear HPL;have HD := zI hD;have HLY := zI hL;have HST := zI hS;have HFT := zI hFT;have HWT := zI hW;have HWV := zI hV;have HGL := zI hG;have HLO := zI hlow;have H2H := zI hG.low;have HFI := zI hfit;have HRM := zI hroom;have HRO := zI (fun W (hW : Below w.heap.size w W) => Jb9 W (hS.below hW));clear hD hL hS hFT hW hV hG hlow hfit hroom;go_enter Tryz.func8, Tryz.ntmps8;go_wp2_with fail
 refine HBL.out.mono ?_;rintro e w1 ⟨rfl, hw⟩;subst hw;go_wp2_with fail
 refine HPM.out.mono ?_;rintro e w1 ⟨rfl, hb1⟩;obtain ⟨g6, hg6⟩ : ∃ g6, g6 = w1.heap.size := ⟨_, rfl⟩;obtain ⟨w2, hw2⟩ : ∃ w2, w2 = w1.alloc (.cells #[.int .i64 (N : Int), .int .i64 2, .int .i64 18, .int .i64 (B : Int), .int .i64 (C : Int), .int .i64 (D : Int), .int .i64 (R : Int)] 38) := ⟨_, rfl⟩;have hx2 := Bx.new w1 38 #[.int .i64 (N : Int), .int .i64 2, .int .i64 18, .int .i64 (B : Int), .int .i64 (C : Int), .int .i64 (D : Int), .int .i64 (R : Int)];rw [<- hw2, <- hg6] at hx2;have hb2 : Below w.heap.size w w2 := by rw [hw2]; exact hb1.alloc hb1.size _
 have HW2 := zI hw2;have HG6 := zI hg6;have hbd : Below w.heap.size w w2.drew := hb2.drew;have HBD := zI hbd;have hxd := hx2.drew;have HXD := zI hxd;have y6 := hxd.at_ 6 (v := .int .i64 (R : Int)) rfl;clear hb1 hg6 hw2 hx2 hb2 hbd hxd;go_upto_region 6 with fail
 rw [<- HW2.out, <- HG6.out]
 go_region_held3 (fun w' => w'.cell? ⟨g6, 6, none⟩ = some (.int .i64 (R : Int)) /\ Below w.heap.size w w')
  (exact ⟨y6, HBD.out⟩)
  (first
    | (go_at_call 13
       refine (HRO.out _ ?hv).mono ?_
       case hv => (go_split_ands; assumption)
       rintro e w3 ⟨rfl, rfl⟩))
 clear y6;obtain ⟨w3, hw3⟩ : ∃ w3, w3 = w2.drew := ⟨_, rfl⟩;rw [<- hw3] at HBD HXD ⊢;clear hw3;go_split_ands;have x0 := HXD.out.at_ 0 (v := .int .i64 (N : Int)) rfl;have x1 := HXD.out.at_ 1 (v := .int .i64 2) rfl;have x2 := HXD.out.at_ 2 (v := .int .i64 18) rfl;have x3 := HXD.out.at_ 3 (v := .int .i64 (B : Int)) rfl;have x4 := HXD.out.at_ 4 (v := .int .i64 (C : Int)) rfl;have x5 := HXD.out.at_ 5 (v := .int .i64 (D : Int)) rfl;have x6 := HXD.out.at_ 6 (v := .int .i64 (R : Int)) rfl;have HBG := zI (Jsi N C B D R gd w3 HLY.out);go_wp2_with fail
 refine HBG.out.mono ?_;rintro e w4 ⟨gx, mp, bk, FB, rfl, hB⟩;have hz3 := HBD.out.size;have hbw := HBD.out.trans (hB.bel.mono HBD.out.size);have hlo := hB.low;have hFw : ∀ x, F x -> x < w.heap.size := HD.out.ins;have HFW := zI hFw
 have hV4 : SvS w4 FB F gx N C B D R gd 0 0 mp bk q 0 none 0 (fun _ _ => none) [] none none none f :=
  ⟨hB.box, hB.map, hB.book, HD.out.below hbw, fun x hx hd => by have h1 := hlo.2.2 x hx; have h2 := hFw x hd; omega, ⟨hB.ne.1, fun h => by have h2 := hFw _ h; omega⟩, ⟨hB.ne.2, fun h => by have h2 := hFw _ h; omega⟩⟩
 have HV4 := zI hV4;have HB4 := zI hbw;have HGX := zI (show w.heap.size <= gx /\ ∀ x, FB x -> w.heap.size <= x from ⟨by omega, fun x hx => by have h1 := hlo.2.2 x hx; omega⟩);have HWI := zI (J34 w4 hV4.box hV4.ngx.2 (by have := HLY.out.n; omega) hV4.disk (by omega));clear hB hz3 hbw hlo hFw hV4 x0 x1 x2 x3 x4 x5 x6;go_wp2_with fail
 refine HWI.out.mono ?_;rintro e w5 ⟨rfl, hd5⟩;have hv5 := HV4.out.disked hd5;obtain ⟨FD5, hFD5⟩ : ∃ FD5, FD5 = grow F w4 w5 := ⟨_, rfl⟩;rw [<- hFD5] at hv5;have hz4 := HB4.out.size;have hz5 := hv5.2.chg.size;have hgx := HGX.out;have hgl := hv5.1.box.lt;have HFD := zI (show ∀ x, FD5 x -> F x \/ w.heap.size <= x from fun x hx => by rw [hFD5] at hx; exact hx.imp (fun h => h) (fun h => by have := h.1; omega))
 have HAP := zI (show ∀ x, FT x -> Apart FB FD5 gx w5 x from fun x hx => by
  have h1 := HST.out.ins x hx;refine ⟨fun h => ?_, fun h => ?_, by omega, by omega⟩
  · have := hgx.2 x h; omega
  · rcases HFD.out x h with h | h
    · exact HFT.out x hx h
    · omega)
 have hST5 := (HST.out.below HB4.out).chg hd5.chg (fun x hx hf => HFT.out x hx hf);have hG5 := (HGL.out.below HB4.out).chg hd5.chg (fun x hx => HLO.out x hx)
 have HSV := zI (Jyo w5 hv5.1 HLY.out hST5 HAP.out HWT.out HWV.out hG5 HFI.out ⟨by have := H2H.out; omega, fun x hx => by
  rcases hx with hx | hx
  · have h1 := hgx.2 x hx; have := H2H.out; omega
  · rcases HFD.out x hx with h | h
    · exact HLO.out x h
    · have := H2H.out; omega⟩ (by omega) (by omega) (by have := HRM.out; simp; omega) (by omega))
 have HV5 := zI hv5.1;have HC5 := zI (show Chg F w w5 from (Chg.of_below HB4.out).trans hd5.chg (fun x h => .inl h));have HG5 := zI (show ∀ x, FD5 x -> grow F w w5 x from fun x hx => by rw [hFD5] at hx; exact hx.imp (fun h => h) (fun h => ⟨by have := h.1; omega, h.2⟩));clear hd5 hv5 hFD5 hz4 hz5 hgx hgl hST5 hG5;go_wp2_with fail
 refine HSV.out.mono ?_;rintro e w6 ⟨FB', FD', mp', bk', gl, ps, v, q', rfl, hg6, hq6, hs6, ht6, hm6, hl6⟩;have hz5 := HC5.out.size;have hz6 := ht6.chg.size;have HG6 := zI hg6;have HML := zI (show w.heap.size <= mp' /\ w.heap.size <= gl from ⟨by omega, by omega⟩);have HS6 := zI hs6;have HQ6 := zI hq6
 have HF1 := zI (show ∀ x, FB' x -> w.heap.size <= x from fun x hx => by
  rcases ht6.fb x hx with h | h
  · exact HGX.out.2 x h
  · have := h.1; omega)
 have HF2 := zI (show ∀ x, FD' x -> grow F w w6 x from fun x hx => by
  rcases ht6.fd x hx with h | h
  · exact Jda (HG5.out x h) hz6
  · exact .inr ⟨by have := h.1; omega, h.2⟩)
 have HF3 := zI (show Chg F w w6 from HC5.out.trans ht6.chg (fun x hx => by
  rcases hx with rfl | hx | hx
  · exact .inr HGX.out.1
  · exact .inr (HGX.out.2 x hx)
  · exact HFD.out x hx))
 clear hg6 hq6 hs6 ht6 hz5 hz6 hm6 hl6;go_wp2_with fail
 go_ret2;exact ⟨gx, FB', FD', mp', bk', gl, ps, v, q', rfl, HG6.out, by have := HQ6.out; omega, HS6.out, HGX.out.1, HF1.out, HF2.out, HF3.out, HML.out.1, HML.out.2⟩
open Go.Maps
def Jkj (s : ByteArray) : Option (Nat × Nat × Nat) -> Prop
 | none => s = strOf (zeros 256)
 | some (g, b, n) => s = strOf (suB g b n) /\ 1 <= g /\ g < 18446744073709551616 /\ 64 <= b /\ b <= 4096 /\ n <= 40000
def bst (x : Nat × Nat × Nat) : Option (Nat × Nat × Nat) -> Nat × Nat × Nat
 | none => x
 | some y => if x.1 < y.1 then y else x
def supV (x : Nat × Nat × Nat) (e : Int) : Value := .tuple #[.agg #[.int .u64 (x.1 : Int), .int .i64 (x.2.1 : Int), .int .i64 (x.2.2 : Int)], .int .i64 e]
def supR (N : Nat) (x : Nat × Nat × Nat) : Value := if x.1 = 0 \/ x.2.1 ≠ N then supV (0, 0, 0) 28 else supV x 0
def bsts (o0 o1 : Option (Nat × Nat × Nat)) : Nat -> Nat × Nat × Nat
 | 0 => (0, 0, 0)
 | 1 => bst (0, 0, 0) o0
 | _ => bst (bst (0, 0, 0) o0) o1
def nth2 (o0 o1 : Option (Nat × Nat × Nat)) (k : Nat) : Option (Nat × Nat × Nat) := if k = 0 then o0 else o1
theorem Jyp (o0 o1 : Option (Nat × Nat × Nat)) {k : Nat} (h : k < 2) : bsts o0 o1 (k + 1) = bst (bsts o0 o1 k) (nth2 o0 o1 k) := by
 have : k = 0 \/ k = 1 := by omega
 rcases this with rfl | rfl <;> rfl
abbrev J1p (x : Nat × Nat × Nat) : Array Value := #[.int .u64 (x.1 : Int), .int .i64 (x.2.1 : Int), .int .i64 (x.2.2 : Int)]
theorem Jum {w : World} {F : Nat -> Prop} {g N n : Nat} {f fl : Int -> Option ByteArray} {ws : List (Int × ByteArray)} (h : DkAt w F g N n f fl ws) (hN : 2 <= N) (o0 o1 : Option (Nat × Nat × Nat)) (h0 : Jkj (Ja5 f 0) o0) (h1 : Jkj (Ja5 f 1) o1) :
  Calls Tryz.prog 30 #[.pointer (some ⟨g, 0, none⟩)] w fun e w' => e = .returned (supR N (bsts o0 o1 2)) /\ Below w.heap.size w w' := by
 have HSA := zI (show ∀ k : Nat, k < 2 -> Jkj (Ja5 f (k : Int)) (nth2 o0 o1 k) from fun k hk => by
  have : k = 0 \/ k = 1 := by omega
  rcases this with rfl | rfl
  · exact h0
  · exact h1)
 have HD := zI h;have hba := ((Below.refl w.heap.size w).alloc (Nat.le_refl _) (.cells #[.int .u64 0, .int .i64 0, .int .i64 0] 83));have hbb := hba.alloc hba.size (.cells #[.int .u64 0, .int .i64 0, .int .i64 0] 83);have hbx := (Bx.new w 83 #[.int .u64 0, .int .i64 0, .int .i64 0]).alloc (.cells #[.int .u64 0, .int .i64 0, .int .i64 0] 83);have hby := Bx.new (w.alloc (.cells #[.int .u64 0, .int .i64 0, .int .i64 0] 83)) 83 #[.int .u64 0, .int .i64 0, .int .i64 0];rw [show (w.alloc (.cells #[.int .u64 0, .int .i64 0, .int .i64 0] 83)).heap.size = w.heap.size + 1 from by simp] at hby;have HBX := zI hbx;have HBY := zI hby;have HBB := zI hbb;clear hba hbb hbx hby h h0 h1;go_enter Tryz.func30, Tryz.ntmps30;go_wp2_with fail
 go_loopw [10] (fun i wr => ∃ k : Nat, k <= 2 /\ i = .int .i64 (k : Int) /\ Bx wr w.heap.size 83 #[.int .u64 0, .int .i64 0, .int .i64 0] /\ Bx wr (w.heap.size + 1) 83 (J1p (bsts o0 o1 k)) /\ Below w.heap.size w wr) (fun i _ => 2 - (intOf i).toNat)
 case atStart => exact ⟨0, by omega, rfl, HBX.out, HBY.out, HBB.out⟩
 case round =>
  obtain ⟨k, hk, rfl, hx, hy, hb⟩ := hrel;by_cases hlt : k < 2
  · have HX := zI hx
    have HY := zI hy;have HB := zI hb;have HRD := zI (Jiq (HD.out.below hb) k (by omega));have hsa := HSA.out k hlt;have HNX := zI (Jyp o0 o1 hlt);generalize Ja5 f (k : Int) = S at *;generalize nth2 o0 o1 k = o at *;generalize bsts o0 o1 k = x at *;obtain ⟨x', hx'⟩ : ∃ x', x' = bsts o0 o1 (k + 1) := ⟨_, rfl⟩;rw [<- hx'] at HNX;have HX' := zI hx';clear hx';clear hx hy hb;cases o with
    | none =>
      have HS := zI (show S = strOf (zeros 256) from hsa);have HZ := zI (show x' = x from HNX.out);clear hsa HNX;go_wp2_with fail
      refine HRD.out.mono ?_;rintro e w2 ⟨rfl, hb2⟩;have HG := zI (Jsh w2);have HX2 := zI (HX.out.below hb2);have HY2 := zI (HY.out.below hb2);have HB2 := zI (HB.out.trans (hb2.mono HB.out.size));rw [<- HS.out] at HG;clear hb2;go_wp2_with fail
      refine HG.out.mono ?_;rintro e w3 ⟨rfl, hb3⟩;have hb4 := hb3.alloc hb3.size (.cells #[.int .u64 0, .int .i64 0, .int .i64 0] 83);have HX4 := zI (HX2.out.below hb4);have HY4 := zI (HY2.out.below hb4);have HB4 := zI (HB2.out.trans (hb4.mono HB2.out.size));clear hb3 hb4;go_wp2_with fail
      go_roundw
      case rel => exact ⟨k + 1, by omega, by go_num, HX4.out, by rw [<- HX'.out, HZ.out]; exact HY4.out, HB4.out⟩
      case measure => simp [intOf]; omega
    | some y =>
      obtain ⟨gg, bb, nn⟩ := y;obtain ⟨hS, y1, y2, y3, y4, y5⟩ := hsa;have HS := zI hS;have HGG := zI (fun W => J33 gg bb nn W y1 y2 y3 y4 y5);clear hS y2 y3 y4 y5;go_wp2_with fail
      refine HRD.out.mono ?_;rintro e w2 ⟨rfl, hb2⟩;have HG := zI (HGG.out w2);have HX2 := zI (HX.out.below hb2);have HY2 := zI (HY.out.below hb2);have HB2 := zI (HB.out.trans (hb2.mono HB.out.size));rw [<- HS.out] at HG;clear hb2;go_wp2_with fail
      refine HG.out.mono ?_;rintro e w3 ⟨rfl, hb3⟩;have hb4 := hb3.alloc hb3.size (.cells #[.int .u64 (gg : Int), .int .i64 (bb : Int), .int .i64 (nn : Int)] 83);have HX4 := zI (HX2.out.below hb4);have HY4 := zI (HY2.out.below hb4);have HB4 := zI (HB2.out.trans (hb4.mono HB2.out.size));have hy3 := HY2.out.below hb3;have HY3 := zI hy3;have HX3 := zI (HX2.out.below hb3);have HB3 := zI (HB2.out.trans (hb3.mono HB2.out.size));have t0 := hy3.at_ 0 rfl;have t1 := hy3.at_ 1 rfl;have t2 := hy3.at_ 2 rfl;have f0 := hy3.free 0;have f1 := hy3.free 1;have f2 := hy3.free 2;have hltw : w.heap.size + 1 < w3.heap.size := Nat.lt_of_lt_of_le HY2.out.lt hb3.size;clear hb3 hb4 hy3;by_cases hgt : x.1 < gg
      · have HZ := zI (show x' = (gg, bb, nn) from by rw [HNX.out]; exact if_pos hgt)
        go_wp2_with fail
        have hbd := Jar (B := w.heap.size) [.int .u64 (gg : Int), .int .i64 (bb : Int), .int .i64 (nn : Int)] (g := w.heap.size + 1) (by omega) w3 0;have hcd := Jdt (g := w.heap.size + 1) [.int .u64 (gg : Int), .int .i64 (bb : Int), .int .i64 (nn : Int)] w3 0;have hyd := Jbv HY3.out [.int .u64 (gg : Int), .int .i64 (bb : Int), .int .i64 (nn : Int)] rfl;have hxd := HX3.out.chg hcd (by omega);have HXD := zI (hxd.alloc (.cells #[.int .u64 (gg : Int), .int .i64 (bb : Int), .int .i64 (nn : Int)] 83));have HYD := zI (hyd.alloc (.cells #[.int .u64 (gg : Int), .int .i64 (bb : Int), .int .i64 (nn : Int)] 83));have HBD := zI (HB3.out.trans (hbd.alloc (Nat.le_trans HB3.out.size hbd.size) (.cells #[.int .u64 (gg : Int), .int .i64 (bb : Int), .int .i64 (nn : Int)] 83)));simp only [putC, Nat.zero_add, Nat.reduceAdd] at HXD HYD HBD;clear hbd hcd hyd hxd;go_roundw
        case rel => exact ⟨k + 1, by omega, by go_num, HXD.out, by rw [<- HX'.out, HZ.out]; exact HYD.out, HBD.out⟩
        case measure => simp [intOf]; omega
      · have HZ := zI (show x' = x from by rw [HNX.out]; exact if_neg hgt)
        go_wp2_with fail
        go_roundw
        case rel => exact ⟨k + 1, by omega, by go_num, HX4.out, by rw [<- HX'.out, HZ.out]; exact HY4.out, HB4.out⟩
        case measure => simp [intOf]; omega
  · have hke : k = 2 := by omega
    subst hke;have HRV := zI (show ∀ x, x = bsts o0 o1 2 -> supR N (bsts o0 o1 2) = if x.1 = 0 \/ x.2.1 ≠ N then supV (0, 0, 0) 28 else supV x 0 from fun x hx => by rw [hx]; rfl);obtain ⟨x, hx0⟩ : ∃ x, x = bsts o0 o1 2 := ⟨_, rfl⟩;have HR := zI (HRV.out x hx0);rw [<- hx0] at hy;have HX := zI hx;have HY := zI hy;have HB := zI hb;have HBK := zI (show ∀ q, Calls Tryz.prog 27 #[.pointer (some ⟨g, 0, none⟩)] (wr.drewN q) fun e w' => e = .returned (.int .i64 (N : Int)) /\ w' = wr.drewN q from fun q => (Jli (HD.out.below (below_drewN hb q))).mono (fun _ _ ⟨h1, h2⟩ => ⟨h1, h2.symm⟩));have t0 := hy.at_ 0 rfl;have t1 := hy.at_ 1 rfl;have t2 := hy.at_ 2 rfl;have r0 := hx.at_ 0 rfl;have r1 := hx.at_ 1 rfl;have r2 := hx.at_ 2 rfl;have f0 := hx.free 0;have f1 := hx.free 1;have f2 := hx.free 2;obtain ⟨a, b, c⟩ := x;simp only at t0 t1 t2 HR;clear hx hy hb hx0 HRV;by_cases ha : a = 0
    · have HV := zI (show supR N (bsts o0 o1 2) = supV (0, 0, 0) 28 from by rw [HR.out, if_pos (.inl ha)])
      have d0 : ((a : Int) == 0) = true := by rw [beq_iff_eq]; omega
      go_wp2_with fail
      go_quiet (fail)
      go_wp2_with fail
      obtain ⟨w9, hw9⟩ : ∃ w9, w9 = putC (wr.drewN nq) w.heap.size 0 [.int .u64 0, .int .i64 0, .int .i64 0] := ⟨_, rfl⟩;have hx9 := Jbv (HX.out.below (below_drewN (Below.refl _ _) nq)) [.int .u64 0, .int .i64 0, .int .i64 0] rfl;have hb9 := Jar (B := w.heap.size) [.int .u64 0, .int .i64 0, .int .i64 0] (Nat.le_refl _) (wr.drewN nq) 0;rw [<- hw9] at hx9 hb9;simp only [putC, Nat.zero_add, Nat.reduceAdd] at hw9;rw [<- hw9];have q0 := hx9.at_ 0 rfl;have q1 := hx9.at_ 1 rfl;have q2 := hx9.at_ 2 rfl;rw [HV.out];exact bodyPost_ret (v := supV (0, 0, 0) 28) (by simp [results, Tryz.results30, go_sem, q0, q1, q2, supV]) rfl ⟨rfl, (below_drewN HB.out nq).trans hb9⟩
    · have d0 : ((a : Int) == 0) = false := by rw [beq_eq_false_iff_ne]; omega
      by_cases hbn : b = N
      · have HV := zI (show supR N (bsts o0 o1 2) = supV (a, b, c) 0 from by rw [HR.out, if_neg]; intro h; rcases h with h | h; exact ha h; exact h hbn)
        have d1 : ((b : Int) != (N : Int)) = false := by rw [hbn]; simp
        have HBN := zI hbn;clear hbn;go_wp2_with fail
        go_quiet ((go_at_call 27; exact Calls.quiet_of_same (HBK.out _)))
        go_wp2_with fail
        obtain ⟨w9, hw9⟩ : ∃ w9, w9 = putC (wr.drewN nq) w.heap.size 0 [.int .u64 (a : Int), .int .i64 (b : Int), .int .i64 (c : Int)] := ⟨_, rfl⟩;have hx9 := Jbv (HX.out.below (below_drewN (Below.refl _ _) nq)) [.int .u64 (a : Int), .int .i64 (b : Int), .int .i64 (c : Int)] rfl;have hb9 := Jar (B := w.heap.size) [.int .u64 (a : Int), .int .i64 (b : Int), .int .i64 (c : Int)] (Nat.le_refl _) (wr.drewN nq) 0;rw [<- hw9] at hx9 hb9;simp only [putC, Nat.zero_add, Nat.reduceAdd] at hw9;rw [<- hw9];have q0 := hx9.at_ 0 rfl;have q1 := hx9.at_ 1 rfl;have q2 := hx9.at_ 2 rfl;rw [HV.out];exact bodyPost_ret (v := supV (a, b, c) 0) (by simp [results, Tryz.results30, go_sem, q0, q1, q2, supV]) rfl ⟨rfl, (below_drewN HB.out nq).trans hb9⟩
      · have HV := zI (show supR N (bsts o0 o1 2) = supV (0, 0, 0) 28 from by rw [HR.out, if_pos (.inr hbn)])
        have d1 : ((b : Int) != (N : Int)) = true := by rw [bne_iff_ne]; omega
        have HBN := zI hbn;clear hbn;go_wp2_with fail
        go_quiet ((go_at_call 27; exact Calls.quiet_of_same (HBK.out _)))
        go_wp2_with fail
        obtain ⟨w9, hw9⟩ : ∃ w9, w9 = putC (wr.drewN nq) w.heap.size 0 [.int .u64 0, .int .i64 0, .int .i64 0] := ⟨_, rfl⟩;have hx9 := Jbv (HX.out.below (below_drewN (Below.refl _ _) nq)) [.int .u64 0, .int .i64 0, .int .i64 0] rfl;have hb9 := Jar (B := w.heap.size) [.int .u64 0, .int .i64 0, .int .i64 0] (Nat.le_refl _) (wr.drewN nq) 0;rw [<- hw9] at hx9 hb9;simp only [putC, Nat.zero_add, Nat.reduceAdd] at hw9;rw [<- hw9];have q0 := hx9.at_ 0 rfl;have q1 := hx9.at_ 1 rfl;have q2 := hx9.at_ 2 rfl;rw [HV.out];exact bodyPost_ret (v := supV (0, 0, 0) 28) (by simp [results, Tryz.results30, go_sem, q0, q1, q2, supV]) rfl ⟨rfl, (below_drewN HB.out nq).trans hb9⟩
end Go.Proofs.YtalkkhafcfhglaaGreatDoor
namespace Go.Proofs.YtalkkhafcfhglaaGreatDoor
open Go.RowKit
theorem Jun (gen num : Int) (b off n c : Nat) (w : World) (h : w.cell? ⟨b, off, none⟩ = some (.string (strOf (zeros 256)))) (hn : 1 <= n) :
  Calls Tryz.prog 77 #[.int .u64 gen, .int .i64 num, .slice (some ⟨b, off, none⟩) n c] w fun e w' => e = .returned (.tuple #[.string ByteArray.empty, .int .i64 0]) /\ Below w.heap.size w w' := by
 have hsz : (strOf (zeros 256)).size = 256 := by rw [Jac, Jdj]
 have HX : Hid ((strOf (zeros 256)).extract 4 32 = strOf (le 8 0 ++ (le 4 0 ++ (le 2 0 ++ (le 2 0 ++ zeros 12))))) := zI (by
  have h1 : le 8 0 ++ (le 4 0 ++ (le 2 0 ++ (le 2 0 ++ zeros 12))) = zeros 28 := by decide
  rw [h1];apply ByteArray.ext;rw [ByteArray.data_extract];unfold strOf zeros
  simp)
 generalize strOf (zeros 256) = S at *;have HF := zI (ReadW.from_ w (Below.refl _ w) (le 8 0 ++ (le 4 0 ++ (le 2 0 ++ (le 2 0 ++ zeros 12)))) (by decide));go_enter Tryz.func77, Tryz.ntmps77;go_wp2_with fail
 rw [HX.out];refine HF.out.mono ?_;rintro e w1 ⟨gu, rfl, h1⟩;have HW := zI (h1.word 0 _ (by decide) (by decide));clear h1;go_wp2_with fail
 refine HW.out.mono ?_;rintro e w2 ⟨rfl, h2⟩;have HW2 := zI (h2.small 4 0 _ (.inr (.inr rfl)) (by decide) (by decide));clear h2;go_wp2_with fail
 refine HW2.out.mono ?_;rintro e w3 ⟨rfl, h3⟩;have HW3 := zI (h3.small 2 0 _ (.inr (.inl rfl)) (by decide) (by decide));clear h3;go_wp2_with fail
 refine HW3.out.mono ?_;rintro e w4 ⟨rfl, h4⟩;have HW4 := zI (h4.small 2 0 _ (.inr (.inl rfl)) (by decide) (by decide));clear h4;go_wp2_with fail
 refine HW4.out.mono ?_;rintro e w5 ⟨rfl, h5⟩;have HB := zI h5.below;clear h5;go_wp2_with fail
 go_ret2;exact ⟨rfl, HB.out⟩
def rdL (f : Int -> Option ByteArray) (a k : Nat) : List Value := (List.range k).map fun q => Value.string (Ja5 f ((a + q : Nat) : Int))
theorem J1q (f : Int -> Option ByteArray) (a k : Nat) : rdL f a (k + 1) = rdL f a k ++ [.string (Ja5 f ((a + k : Nat) : Int))] := by
 unfold rdL;rw [List.range_succ, List.map_append]; rfl
theorem Jyq {F : Nat -> Prop} {g N n0 : Nat} {f fl : Int -> Option ByteArray} {ws : List (Int × ByteArray)} (w : World) (h : DkAt w F g N n0 f fl ws) (a k gen : Nat) (hk : 1 <= k) (ha : a + k <= N) (hgen : 1 <= gen) (hz : Ja5 f ((a : Nat) : Int) = strOf (zeros 256)) :
  Calls Tryz.prog 35 #[.pointer (some ⟨g, 0, none⟩), .int .i64 (a : Int), .int .i64 (k : Int), .int .u64 (gen : Int)] w fun e w' => e = .returned (.tuple #[.slice none 0 0, .int .i64 0]) /\ Below w.heap.size w w' := by
 have hN := h.size;have HR := zI (Jpl ⟨g, 0, none⟩ k gen w (by omega) hgen);have HD := zI (fun W (hW : Below w.heap.size w W) j (hj : j < N) => Jiq (h.below hW) j hj);have HZ := zI hz;clear h hz hgen;go_enter Tryz.func35, Tryz.ntmps35;go_wp2_with fail
 refine HR.out.mono ?_;rintro e w1 ⟨rfl, hw⟩;subst hw;go_wp2_with fail
 go_loopw [10, 23] (fun v j wr => ∃ q : Nat, q <= k /\ j = .int .i64 (q : Int) /\ wr.ownsRow w.heap.size 9 1 v q (rdL f a q) /\ Below w.heap.size w wr) (fun _ j _ => k - (intOf j).toNat)
 case atStart => exact ⟨0, Nat.zero_le _, rfl, World.ownsRow_nil _ _ _ _, Below.refl _ _⟩
 case round =>
  obtain ⟨q, hq, rfl, hown, hb⟩ := hrel;by_cases hlt : q < k
  · have HQ := zI (HD.out _ hb (a + q) (by omega))
    have HS := zI (J1q f a q);have HA := zI (show IntKind.i64.wrap ((a : Int) + (q : Int)) = ((a + q : Nat) : Int) from by rw [IntWalk.i64_in _ (by omega)]; omega);have HO := zI hown;have HB := zI hb;have HK := zI (show q + 1 <= 1000000 from by omega);generalize Ja5 f ((a + q : Nat) : Int) = Z at *;obtain ⟨aq, haq⟩ : ∃ aq, aq = a + q := ⟨_, rfl⟩;rw [<- haq] at HQ HA;clear hown hb haq;have hA := HA.out;go_wp2_with fail
    refine HQ.out.mono ?_;rintro e w2 ⟨rfl, hb2⟩;have hb3 := hb2.alloc hb2.size (.cells #[.string Z] 9);have HSL := zI (Sl.new w2 9 w2.heap.size [.string Z] #[.string Z] rfl rfl);have HON := zI (show ∀ u ∈ ([.string Z] : List Value), u.oneCell' = true from by intro u hu; rw [List.mem_singleton.1 hu]; rfl);have HO3 := zI (Jaj HO.out hb3);have HB3 := zI (HB.out.trans (hb3.mono HB.out.size));clear hb2 hb3 hA;go_wp2_with (at_builtin; refine Jp8 rfl _ _ rfl HO3.out rfl (some ⟨w2.heap.size, 0, none⟩) 1 1 [.string Z] rfl rfl HSL.out HON.out HK.out HB3.out.size ?_; intro A' c' w5 ho5 hg5)
    have hb5 := Jb8 HO3.out hg5 HB3.out HB3.out.size;rw [<- HS.out] at ho5;go_roundw
    case rel => exact ⟨q + 1, by omega, by go_num, ho5, hb5⟩
    case measure => simp [intOf]; omega
  · have hqe : q = k := by omega
    subst hqe;obtain ⟨A', c', rfl, hsl⟩ := Jaq hown
    have hne : rdL f a q ≠ [] := fun e => by
     have := congrArg List.length e;unfold rdL at this;rw [List.length_map, List.length_range] at this;simp at this;omega
    obtain ⟨b, off, rfl, _, hcell⟩ := hsl.at_ hne
    have hc0 := hcell 0 (.string (strOf (zeros 256))) (by
     unfold rdL;rw [List.getElem?_map, List.getElem?_range (by omega)];show some (Value.string (Ja5 f ((a + 0 : Nat) : Int))) = _;rw [Nat.add_zero, HZ.out])
    obtain ⟨wo, hwo⟩ : ∃ wo : World, wo = wr := ⟨_, rfl⟩;rw [<- hwo] at hc0 hb ⊢;have HW := zI (Jun (gen : Int) 0 b off q c' wo (by simpa using hc0) hk);have HB := zI hb;clear hown hsl hne hcell hc0 hb hwo;go_wp2_with fail
    go_loopw [10, 11] (fun v u wr => v = .slice (some ⟨b, off, none⟩) q c' /\ u = .slice none 0 0 /\ wo = wr) (fun _ _ _ => 0)
    case atStart => exact ⟨rfl, rfl, rfl⟩
    case round =>
     obtain ⟨rfl, rfl, hw⟩ := hrel;subst hw;have d1 : decide ((0 : Int) < (q : Int)) = true := decide_eq_true (by omega);have d2 : decide (0 < q) = true := decide_eq_true (by omega);go_wp2_with fail
     refine HW.out.mono ?_;rintro e w6 ⟨rfl, hb6⟩;have HB6 := zI (HB.out.trans (hb6.mono HB.out.size));clear hb6;go_wp2_with fail
     go_ret2;exact ⟨rfl, HB6.out⟩
theorem DsAt.supread {w : World} {F : Nat -> Prop} {g N q : Nat} {f : Int -> Option ByteArray} (h : DsAt w F g N q f) (hN : 2 <= N) (o0 o1 : Option (Nat × Nat × Nat)) (h0 : Jkj (Ja5 f 0) o0) (h1 : Jkj (Ja5 f 1) o1) :
  Calls Tryz.prog 30 #[.pointer (some ⟨g, 0, none⟩)] w fun e w' => e = .returned (supR N (bsts o0 o1 2)) /\ Below w.heap.size w w' := by
 obtain ⟨_, _, _, h, _⟩ := h;exact Jum h hN o0 o1 h0 h1
theorem DsAt.wread0 {w : World} {F : Nat -> Prop} {g N q : Nat} {f : Int -> Option ByteArray} (h : DsAt w F g N q f) (a k gen : Nat) (hk : 1 <= k) (ha : a + k <= N) (hgen : 1 <= gen) (hz : Ja5 f ((a : Nat) : Int) = strOf (zeros 256)) :
  Calls Tryz.prog 35 #[.pointer (some ⟨g, 0, none⟩), .int .i64 (a : Int), .int .i64 (k : Int), .int .u64 (gen : Int)] w fun e w' => e = .returned (.tuple #[.slice none 0 0, .int .i64 0]) /\ Below w.heap.size w w' := by
 obtain ⟨_, _, _, h, _⟩ := h;exact Jyq w h a k gen hk ha hgen hz
structure J2e (f : Int -> Option ByteArray) (N C B D R k i : Nat) (now : Int) (nm : ByteArray) (ts : List Ti) (fl : List Int) (es : List En) (rs : List (List Rc)) (l : List UInt8) (t : Tv) : Prop where
 cat : l = catB k i now (Py.printL nm.toList ts) fl es
 fit : Jhk k i now nm ts fl es
 len : l.length <= C * 256
 on : ∀ j, j < nbC l -> Ja5 f ((Jcb B k + j : Nat) : Int) = chC l j
 sup : ∃ o0 o1, Jkj (Ja5 f 0) o0 /\ Jkj (Ja5 f 1) o1 /\ bsts o0 o1 2 = (k, N, l.length)
 rl : rs.length = es.length
 seg : ∀ j (h1 : j < es.length) (h2 : j < rs.length), SegR f D N es[j] rs[j]
 flo : Jmg ts fl
 ld : ∀ ps : List Pm, ps.map Pm.e = es -> ps.map Pm.l = rs -> (∀ j (hj : j < ps.length), LdOk (Jf5 ⟨⟨now, nm, ts, fl⟩, List.replicate ts.length []⟩ (ps.take j)) ts ps[j]) /\ t = Jf5 ⟨⟨now, nm, ts, fl⟩, List.replicate ts.length []⟩ ps /\ Jj0 D N ps
 few : t.Few
 need : t.need <= (R : Int)
 log : Ja5 f 2 = strOf (zeros 256)
theorem J4m {F : Nat -> Prop} {gd N C B D R q : Nat} {f : Int -> Option ByteArray} (k i : Nat) (now : Int) (nm : ByteArray) (ts : List Ti) (fl : List Int) (es : List En) (rs : List (List Rc)) (l : List UInt8) (t : Tv) (w : World)
  (hD : DsAt w F gd N q f) (hL : Jex N C B D R) (hG : Glo w) (hO : J2e f N C B D R k i now nm ts fl es rs l t) :
  Calls Tryz.prog 10 #[.pointer (some ⟨gd, 0, none⟩)] w fun e w' => ∃ gx gs mp bk FB ps, e = .returned (.tuple #[.pointer (some ⟨gx, 0, none⟩), .pointer (some ⟨gs, 0, none⟩), .slice none 0 0, .int .i64 0]) /\ ps.map Pm.e = es /\
   SvS w' FB F gx N C B D R gd k i mp bk q ps.length none 0 (mapOf ps) (usOf ps) none (Jcy ps) none f /\ StAt w' (made w w') gs R t /\ Below w.heap.size w w' := by
 obtain ⟨o0, o1, hs0, hs1, hsu⟩ := hO.sup;have HRD := hD.supread (by have := hL.n; omega) o0 o1 hs0 hs1;rw [hsu] at HRD;have hk1 : 1 <= k := hO.fit.hg.1;obtain ⟨L, hLL⟩ : ∃ L, L = l.length := ⟨_, rfl⟩;rw [<- hLL] at HRD;unfold supR supV at HRD;rw [if_neg (by simp; omega)] at HRD;dsimp only at HRD;have HRD := zI HRD;have HPL := fun W => Jh2 N W hL.n.1 hL.n.2;rw [<- hL.d, <- hL.b, <- hL.c, <- hL.r] at HPL;have HPM := zI HPL;have HD := zI hD;have HLY := zI hL;have HG := zI hG;have HO := zI hO;have HLL := zI hLL;clear hD hL hG hO hLL HPL hs0 hs1 hsu;go_enter Tryz.func10, Tryz.ntmps10;go_wp2_with fail
 refine HRD.out.mono ?_;rintro e w1 ⟨rfl, hb1⟩;obtain ⟨g6, hg6⟩ : ∃ g6, g6 = w1.heap.size := ⟨_, rfl⟩;obtain ⟨w2, hw2⟩ : ∃ w2, w2 = w1.alloc (.cells #[.int .u64 (k : Int), .int .i64 (N : Int), .int .i64 (L : Int)] 83) := ⟨_, rfl⟩;have hx2 := Bx.new w1 83 #[.int .u64 (k : Int), .int .i64 (N : Int), .int .i64 (L : Int)];rw [<- hw2, <- hg6] at hx2;have hb2 : Below w.heap.size w w2 := by rw [hw2]; exact hb1.alloc hb1.size _
 have HW2 := zI hw2;have HG6 := zI hg6;have HX2 := zI hx2;have HB2 := zI hb2;have s1 := hx2.at_ 1 (v := .int .i64 (N : Int)) rfl;clear hb1 hg6 hw2 hx2 hb2;go_upto_region 6 with fail
 rw [<- HW2.out, <- HG6.out];go_wp2_with fail
 refine (HPM.out w2).mono ?_;rintro e w3 ⟨rfl, hb3⟩;obtain ⟨g8, hg8⟩ : ∃ g8, g8 = w3.heap.size := ⟨_, rfl⟩;obtain ⟨w4, hw4⟩ : ∃ w4, w4 = w3.alloc (.cells #[.int .i64 (N : Int), .int .i64 2, .int .i64 18, .int .i64 (B : Int), .int .i64 (C : Int), .int .i64 (D : Int), .int .i64 (R : Int)] 38) := ⟨_, rfl⟩;have hx4 := Bx.new w3 38 #[.int .i64 (N : Int), .int .i64 2, .int .i64 18, .int .i64 (B : Int), .int .i64 (C : Int), .int .i64 (D : Int), .int .i64 (R : Int)];rw [<- hw4, <- hg8] at hx4;have hb4 : Below w2.heap.size w2 w4 := by rw [hw4]; exact hb3.alloc hb3.size _
 have HW4 := zI hw4;have HG8 := zI hg8;have HX4 := zI hx4;have HB4 := zI (HB2.out.trans (hb4.mono HB2.out.size));have HS4 := zI (HX2.out.below hb4);have l0 := hx4.at_ 0 (v := .int .i64 (N : Int)) rfl;have l1 := hx4.at_ 1 (v := .int .i64 2) rfl;have l2 := hx4.at_ 2 (v := .int .i64 18) rfl;have l3 := hx4.at_ 3 (v := .int .i64 (B : Int)) rfl;have l4 := hx4.at_ 4 (v := .int .i64 (C : Int)) rfl;have l5 := hx4.at_ 5 (v := .int .i64 (D : Int)) rfl;have l6 := hx4.at_ 6 (v := .int .i64 (R : Int)) rfl;have HBG := zI (Jsi N C B D R gd w4 HLY.out);clear hb3 hg8 hw4 hx4 hb4 s1;go_upto_region 7 with fail
 rw [<- HW4.out, <- HG8.out];go_wp2_with fail
 refine HBG.out.mono ?_;rintro e w5 ⟨gx, mp, bk, FB, rfl, hB⟩;have hbw := HB4.out.trans (hB.bel.mono HB4.out.size);have HB5 := zI hbw;have HS5 := zI (HS4.out.below hB.bel);have HX5 := zI (HX4.out.below hB.bel);have HBO := zI hB;have HCO := zI (Jyk k i now nm ts fl es l w5 hB.box (HD.out.below hbw) HLY.out HO.out.cat HO.out.fit (HG.out.below hbw) HO.out.len HO.out.on);rw [<- HLL.out] at HCO;have s0 := HS5.out.at_ 0 (v := .int .u64 (k : Int)) rfl;have s1 := HS5.out.at_ 1 (v := .int .i64 (N : Int)) rfl;have s2 := HS5.out.at_ 2 (v := .int .i64 (L : Int)) rfl;clear hbw hB l0 l1 l2 l3 l4 l5 l6;go_wp2_with fail
 refine HCO.out.mono ?_;rintro e w6 ⟨A, c, B', c2, E, ec, ms, rfl, hms, hck, hA6, hB6, hb6⟩;obtain ⟨w7, hw7⟩ : ∃ w7, w7 = w6.alloc (.cells (Jax k i now nm A ts.length c B' c2 E es.length ec) 88) := ⟨_, rfl⟩;obtain ⟨gc, hgc⟩ : ∃ gc, gc = w6.heap.size := ⟨_, rfl⟩;have hx7 := Bx.new w6 88 (Jax k i now nm A ts.length c B' c2 E es.length ec);have hb7 := (Below.refl w6.heap.size w6).alloc (Nat.le_refl _) (.cells (Jax k i now nm A ts.length c B' c2 E es.length ec) 88);rw [<- hw7, <- hgc] at hx7;rw [<- hw7] at hb7;have HB57 := zI (hb6.trans (hb7.mono hb6.size));have HB7 := zI (HB5.out.trans (HB57.out.mono HB5.out.size));have HX7 := zI hx7;have HCK := zI (hck.below hb7);have HW7 := zI hw7;have HGC := zI hgc;have HZ6 := zI hb7.size;have hml : ms.length = es.length := by rw [<- hms, List.length_map]
 have hme : ∀ j (h1 : j < ms.length) (h2 : j < es.length), ms[j].e = es[j] := fun j h1 h2 => by
  have e1 : (ms.map Em.e)[j]'(by rw [List.length_map]; exact h1) = ms[j].e := List.getElem_map _;rw [<- e1]; congr 1
 have HRE := zI (J1n k i now nm A ts.length c B' c2 E es.length ec ts fl ms rs w7 (HBO.out.box.below HB57.out) (HD.out.below HB7.out) HLY.out HCK.out (by rw [HO.out.rl, hml]) (fun j h1 h2 => by rw [hme j h1 (by rw [<- hml]; exact h1)]; exact HO.out.seg j (by rw [<- hml]; exact h1) h2));have HMS := zI hms;have HA6 := zI hA6;have HB6 := zI hB6;have HZ56 := zI hb6.size;obtain ⟨x0, x1, x2, x3, x4, x5, x6, x7, x8, x9, x10, x11⟩ := Jbd hx7;clear hms hck hA6 hB6 hb6 hw7 hgc hx7 hb7 hml hme s0 s1 s2;go_upto_region 9 with fail
 have hW7 : w6.alloc (.cells #[.int .u64 (k : Int), .int .u64 (i : Int), .int .i64 now, .string nm, .slice A ts.length c, .slice B' ts.length c2, .string ByteArray.empty, .slice none 0 0, .slice none 0 0, .int .i64 0, .int .i64 0, .slice E es.length ec] 88) = w7 := HW7.out.symm;rw [hW7, <- HGC.out];clear hW7;go_wp2_with fail
 refine HRE.out.mono ?_;rintro e w8 ⟨P, pc, ps, rfl, hpe, hpl, hS8⟩;have hpe' : ps.map Pm.e = es := by rw [<- HMS.out, <- hpe, List.map_map]; rfl
 have hpn : ps.length = es.length := by rw [<- hpe', List.length_map]
 have hld := HO.out.ld ps hpe' hpl;have hz5 := HB5.out.size;have hz7 := HB7.out.size;have hz8 := hS8.bel.size;have hz56 := HZ56.out;have hz67 := HZ6.out
 have hP8 : Jf3 w8 (made w5 w8) P es.length ps := by
  obtain ⟨_, _, e8, hs8⟩ := Jaq hS8.row;cases e8
  refine ⟨hs8, hpn, fun p hp => ?_, (Jcl hS8.row).sub (fun b hb => ⟨by have := hb.1; omega, hb.2⟩)⟩;have hm : p.em ∈ ms := by rw [<- hpe]; exact List.mem_map_of_mem hp
  have hr := HCK.out.hes.row _ hm;have hlm : p.l ∈ rs := by rw [<- hpl]; exact List.mem_map_of_mem hp
  obtain ⟨j, hj, ej⟩ := List.getElem_of_mem hlm;have hsg := HO.out.seg j (by rw [<- HO.out.rl]; exact hj) hj;rw [ej] at hsg;obtain ⟨_, _, e9, hs9⟩ := Jaq (hS8.rc p hp);cases e9
  exact ⟨hr.1.below hS8.bel, Jxy hs9 hsg.fine (by have := hsg.n.2; omega), hr.2.sub (fun b hb => ⟨by have := hb.1; omega, by have := hb.2; omega⟩), (Jcl (hS8.rc p hp)).sub (fun b hb => ⟨by have := hb.1; omega, hb.2⟩)⟩
 have hbx8 := (HBO.out.box.below HB57.out).below hS8.bel;have HBU := zI (Jyn k i now nm A ts.length c B' c2 E es.length ec ts fl ms P es.length pc ps t w8 hbx8 HLY.out (HCK.out.below hS8.bel) hP8 (fun x hx => hx.2) HO.out.flo (by have := HO.out.fit.hen; omega) hld.1 hld.2.1 HO.out.few HO.out.need (HA6.out.sub (fun b hb => ⟨by have := hb.1; omega, by have := hb.2; omega⟩)));have HP8 := zI hP8;have HZ58 := zI (show w5.heap.size <= w8.heap.size from by omega);have HX8 := zI hbx8;have HB8 := zI (HB7.out.trans (hS8.bel.mono hz7));have HC8 := zI (HX7.out.below hS8.bel);have HPE := zI hpe';have HPN := zI hpn;have HHO := zI hld.2.2;have HB58 := zI (HB57.out.trans (hS8.bel.mono HB57.out.size));clear x0 x1 x2 x3 x4 x5 x6 x7 x8 x9 x10 x11 hpe hpe' hpn hpl hld hz5 hz7 hz8 hz56 hz67 hP8 hbx8 hS8;obtain ⟨x0, x1, x2, x3, x4, x5, x6, x7, x8, x9, x10, x11⟩ := Jbd HC8.out;go_wp2_with fail
 refine HBU.out.mono ?_;rintro e w9 ⟨g', rfl, hS9, hb9⟩;have HS9 := zI hS9;have HB9 := zI hb9;have HX9 := zI (HX8.out.below hb9);have HC9 := zI (HC8.out.below hb9);clear x0 x1 x2 x3 x4 x5 x6 x7 x8 x9 x10 x11 hS9 hb9;have c0 := HC9.out.at_ 0 (v := .int .u64 (k : Int)) rfl;have c1 := HC9.out.at_ 1 (v := .int .u64 (i : Int)) rfl;have y8 := HX9.out.at_ 8 (v := .int .u64 0) rfl;have y9 := HX9.out.at_ 9 (v := .int .u64 0) rfl;have f8 := HX9.out.free 8;have f9 := HX9.out.free 9;go_upto_region 17 with fail
 go_region
 obtain ⟨w10, hw10⟩ : ∃ w10, w10 = ((w9.setCell ⟨gx, 8, none⟩ (.int .u64 (k : Int))).setCell ⟨gx, 9, none⟩ (.int .u64 (i : Int))).drew := ⟨_, rfl⟩;rw [<- hw10]
 have hc10 : Chg (fun b => b = gx) w9 w10 := by
  rw [hw10];exact (((Chg.set (F := fun b => b = gx) w9 ⟨gx, 8, none⟩ (.int .u64 (k : Int)) rfl).trans (Chg.set (F := fun b => b = gx) _ ⟨gx, 9, none⟩ (.int .u64 (i : Int)) rfl) (fun b e => .inl e)).trans (Chg.of_below (Below.refl _ _).drew) (fun b e => .inl e))
 have hx10 : Bx w10 gx 48 (Jcv N C B D R ⟨gd, 0, none⟩ k i mp bk none 0) := by
  rw [hw10];exact ((HX9.out.set 8 (.int .u64 (k : Int))).set 9 (.int .u64 (i : Int))).drew
 have hgx5 := HBO.out.box.lt;have hlo := HBO.out.low;have hz4 := HB4.out.size;have hz58 := HZ58.out;have hP10 := (HP8.out.below HB9.out).chg hc10 (fun x hx e => by have h1 := hx.1; omega);have HHD := zI (Jxj (c := pc) w10 hx10 HLY.out hP10 (fun hf => by have h1 := hf.1; omega) HHO.out (by have := HO.out.fit.hen; omega));have HST := zI (HS9.out.chg hc10 (fun x hx e => by have h1 := hx.1; omega));have HB10 := zI (HB8.out.trans ((HB9.out.mono HB8.out.size).trans (hc10.below (fun x e => by rw [e]; omega) (Nat.le_trans HB8.out.size HB9.out.size))));have HX10 := zI hx10;have HGX := zI (show w.heap.size <= gx /\ gx < w8.heap.size from by omega);have hx410 := (((HX5.out.below HB58.out).below HB9.out).chg hc10 (fun e => by have h1 := HX4.out.lt; omega));have HX410 := zI hx410;clear c0 c1 y8 y9 f8 f9 hw10 hc10 hx10 hgx5 hlo hz4 hz58 hP10 hx410;go_wp2_with fail
 refine HHD.out.mono ?_;rintro e w11 ⟨rfl, mp8, bk8, FB8, hH, hI⟩;have hlo := hH.low;have hz10 := HB10.out.size;have hgx := HGX.out;have HB11 := zI (HB10.out.trans (hH.chg.below (fun x e => by rw [e]; exact hgx.1) hz10));have HFW := zI (show ∀ x, F x -> x < w.heap.size from HD.out.ins);have HS11 := zI (HST.out.chg hH.chg (fun x hx e => by have h1 := hx.1; omega))
 have HV11 := zI (show SvS w11 FB8 F gx N C B D R gd k i mp8 bk8 q es.length none 0 (mapOf ps) (usOf ps) none (Jcy ps) none f from
  ⟨hH.box, hH.map, hH.book, HD.out.below HB11.out, fun x hx hd => by have h1 := hlo.2 x hx; have h2 := HFW.out x hd; omega,
   ⟨fun h => by have h1 := hlo.2 gx h; have h2 := HX10.out.lt; omega, fun h => by have h2 := HFW.out _ h; omega⟩, ⟨hH.ne, fun h => by have h1 := hlo.1; have h2 := HFW.out _ h; omega⟩⟩)
 have hx411 := HX410.out.chg hH.chg (fun e => by have h1 := HX4.out.lt; have h2 := HBO.out.low.1; omega);have hdr := (Below.refl w11.heap.size w11).drew;have l1 := hx411.at_ 1 (v := .int .i64 2) rfl;have l1' := (hx411.below hdr).at_ 1 (v := .int .i64 2) rfl;have z8 := hH.box.at_ 8 (v := .int .u64 (k : Int)) rfl;have z8' := (hH.box.below hdr).at_ 8 (v := .int .u64 (k : Int)) rfl;have HWR : Hid (Calls Tryz.prog 35 #[.pointer (some ⟨gd, 0, none⟩), .int .i64 2, .int .i64 16, .int .u64 (k : Int)] w11.drew fun e w' => e = .returned (.tuple #[.slice none 0 0, .int .i64 0]) /\ Below w11.drew.heap.size w11.drew w') := zI ((HD.out.below (HB11.out.trans (hdr.mono HB11.out.size))).wread0 2 16 k (by omega) (by have := HLY.out.n; omega) hk1 HO.out.log);clear hlo hz10 hgx hx411 hdr hH hI;go_upto_region 19 with fail
 go_cut [15, 7] (fun s15 s7 wx => s15 = .slice none 0 0 /\ s7 = .int .i64 0 /\ Below w11.heap.size w11 wx)
 case first =>
  go_region_with (first
   | (go_at_call 35
      refine HWR.out.mono ?_;rintro e w12 ⟨rfl, hb12⟩))
  all_goals (go_split_ands; go_wp2_with fail; go_meet; exact ⟨rfl, rfl, (Below.refl w11.heap.size w11).drew.trans (by simpa using hb12)⟩)
 case rest =>
  obtain ⟨rfl, rfl, hb12⟩ := hcut;have HV12 := zI (HV11.out.below hb12);have HS12 := zI (HS11.out.below hb12);have HB12 := zI (HB11.out.trans (hb12.mono HB11.out.size));clear hb12 l1 l1' z8 z8';have HZ8 := zI HB8.out.size;have HSF := zI (HS12.out.sub (G := fun b => w.heap.size <= b /\ b < wc.heap.size) (fun b hb => ⟨by have h1 := hb.1; have h2 := HZ8.out; omega, HS12.out.ins b hb⟩) (fun b hb => hb.2));go_wp2_with fail
  refine bodyPost_ret (v := .tuple #[.pointer (some ⟨gx, 0, none⟩), .pointer (some ⟨g', 0, none⟩), .slice none 0 0, .int .i64 0]) (by simp [results, Tryz.results10, go_sem]) rfl ⟨gx, g', mp8, bk8, FB8, ps, rfl, HPE.out, by rw [HPN.out]; exact HV12.out, HSF.out, HB12.out⟩
end Go.Proofs.YtalkkhafcfhglaaGreatDoor
