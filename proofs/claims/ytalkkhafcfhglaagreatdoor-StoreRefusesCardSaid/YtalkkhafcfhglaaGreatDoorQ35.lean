/-
  Several texts in one: Swrt, Savp, Bra.
-/
import Derived.Test.YtalkkhafcfhglaaGreatDoorQ34
set_option maxRecDepth 100000
set_option maxHeartbeats 4000000
namespace Go.Proofs.YtalkkhafcfhglaaGreatDoor
open Go.RowKit
def putB (f : Int -> Option ByteArray) : List Int -> List ByteArray -> Int -> Option ByteArray
 | z :: zs, s :: ss => putB (setS f z s) zs ss
 | _, _ => f
theorem Jx2 (zs : List Int) (ss : List ByteArray) (z : Int) (s : ByteArray) (h : zs.length = ss.length) : ∀ f, putB f (zs ++ [z]) (ss ++ [s]) = setS (putB f zs ss) z s := by
 induction zs generalizing ss with
 | nil =>
   have : ss = [] := List.eq_nil_of_length_eq_zero (by simpa using h.symm);subst this;intro f; rfl
 | cons a r ih =>
   cases ss with
   | nil => simp at h
   | cons t u =>
     intro f;exact ih u (by simpa using h) (setS f a t)
def Jki (D N : Nat) (us : List Int) (k : Nat) : List Int := (Led.freeIn (D : Int) us (N - D)).take k
theorem Jsm {id tier shard : Nat} {l : List Rc} (hf : ∀ r ∈ l, r.Fine) : ∀ s ∈ sgL id tier shard l, s.size = 256 := by
 intro s hs;unfold sgL at hs;obtain ⟨p, _, rfl⟩ := List.mem_map.1 hs;rw [Jac];exact Jj3 (fun r hr => hf r (Jsl hr)) (by rw [Jsk]; omega)
theorem Jeq {w : World} {B : Nat} {e : TypeId} {k n c : Nat} {a : Option (Nat × Nat)} {xs : List Value} (h : w.ownsRow B e k (.slice (adr a) n c) n xs) : ∀ x, adr a = some x -> B <= x.block /\ x.block < w.heap.size := by
 intro x e1;have h2 := h;rw [e1] at h2;exact h2.lt x.block rfl
theorem J5d {w : World} {B : Nat} {e : TypeId} {k n c z : Nat} {a : Option (Nat × Nat)} {xs : List Value} (h : w.ownsRow B e k (.slice (adr a) n c) n xs) (hz : (Value.slice (adr a) n c).ownBlock = some z) : adr a = some ⟨z, 0, none⟩ := by
 rcases h.2 with ⟨h1, _⟩ | ⟨g, cap, cur, h1, _⟩
 · rw [h1] at hz; simp [Value.ownBlock] at hz
 · injection h1 with h1
   rw [h1] at hz ⊢;simp [Value.ownBlock] at hz;rw [hz]
theorem J4c {FB FD : Nat -> Prop} {gx N C B D R gd gen id mp bk q nP : Nat} {lg : Option Addr} {bad : Int} {pf : Nat -> Nat -> Option PRaw} {us : List Int} {a b m : Option (List Int)} {f : Int -> Option ByteArray} (x : Wm) (w : World)
  (h : SvS w FB FD gx N C B D R gd gen id mp bk q nP lg bad pf us a b m f) (hL : Jex N C B D R) (hid : id + 1 < 18446744073709551616) (ht : x.t < 10) (hs : x.s < 8) (hr : Rcs w (adr x.B) x.l.length x.l) (hA : AIn (Apart FB FD gx w) (adr x.B)) (hf : ∀ r ∈ x.l, r.Fine) (ho : x.l.Pairwise Rc.lt) (hn : 1 <= x.l.length /\ x.l.length <= 10000) (hc : x.l.length <= x.d)
  (hroom : (sgN x.l.length : Int) <= ((N - D : Nat) : Int) - us.length) (hq : q <= 700000) :
  Calls Tryz.prog 83 #[.pointer (some ⟨gx, 0, none⟩), x.raw.val] w fun e w' => ∃ FB' FD' A' c', e = .returned (.tuple #[(Pm.raw ⟨⟨id + 1, x.t, x.s, Jki D N us (sgN x.l.length)⟩, x.l, A', c', x.B, x.d⟩).val, .int .i64 0]) /\
   SvS w' FB' FD' gx N C B D R gd gen (id + 1) mp bk (q + 2 * sgN x.l.length) nP lg bad pf (Led.insAll us (Jki D N us (sgN x.l.length))) (some (Led.insAll (a.getD []) (Jki D N us (sgN x.l.length)))) b m (putB f (Jki D N us (sgN x.l.length)) (sgL (id + 1) x.t x.s x.l)) /\
   SvT w w' FB FD FB' FD' gx /\ PmAt w' (Apart FB' FD' gx w') ⟨⟨id + 1, x.t, x.s, Jki D N us (sgN x.l.length)⟩, x.l, A', c', x.B, x.d⟩ /\ AIn (made w w') (adr A') /\ Led.DrawLaw (D : Int) ((N - D : Nat) : Int) us (sgN x.l.length : Int) (Jki D N us (sgN x.l.length)) := by
 obtain ⟨t, s, l, Bx', d⟩ := x;dsimp only at ht hs hr hA hf ho hn hc hroom ⊢;obtain ⟨id1, hid1⟩ : ∃ id1, id1 = id + 1 := ⟨_, rfl⟩;rw [<- hid1] at hid ⊢;have hDN : 38 <= D /\ D <= N /\ N <= 4096 := by have := hL.bd; have := hL.n; omega
 have HDN := zI hDN;obtain ⟨len, hlen⟩ : ∃ len, len = l.length := ⟨_, rfl⟩;have HLEN := zI hlen;obtain ⟨k, hk⟩ : ∃ k, k = sgN l.length := ⟨_, rfl⟩;have HK := zI hk;have hk4 : 1 <= k /\ k <= 4096 := by rw [hk]; constructor; (unfold sgN; omega); (rw [<- hk]; omega)
 have HSZ := zI (Jsm (id := id1) (tier := t) (shard := s) hf);have HLL := zI (show (sgL id1 t s l).length = k from by rw [Jep, hk]);have hwr : IntKind.u64.wrap ((id : Int) + 1) = (id1 : Int) := by rw [IntWalk.u64_in _ (by omega)]; omega
 have HRM := zI hroom;rw [<- hlen] at hr hn hc;rw [<- hk] at hroom ⊢
 have e0 : (Wm.raw ⟨t, s, l, Bx', d⟩).val = .agg #[.int .u64 0, .int .i64 (t : Int), .int .i64 (s : Int), .int .i64 0, .int .i64 (k : Int), .slice none 0 0, .slice (adr Bx') len d] := by
  unfold Wm.raw PRaw.val;dsimp only;rw [<- hk, <- hlen]; rfl
 rw [e0];obtain ⟨gp, hgp⟩ : ∃ gp, gp = w.heap.size := ⟨_, rfl⟩;obtain ⟨gr, hgr⟩ : ∃ gr, gr = w.heap.size + 1 := ⟨_, rfl⟩;obtain ⟨w1, hw1⟩ : ∃ w1, w1 = (w.alloc (.cells #[.int .u64 0, .int .i64 (t : Int), .int .i64 (s : Int), .int .i64 0, .int .i64 (k : Int), .slice none 0 0, .slice (adr Bx') len d] 144)).alloc (.cells #[.int .u64 0, .int .i64 0, .int .i64 0, .int .i64 0, .int .i64 0, .slice none 0 0, .slice none 0 0] 144) := ⟨_, rfl⟩;have hz1 : (w.alloc (.cells #[.int .u64 0, .int .i64 (t : Int), .int .i64 (s : Int), .int .i64 0, .int .i64 (k : Int), .slice none 0 0, .slice (adr Bx') len d] 144)).heap.size = w.heap.size + 1 := by simp
 have hb1 : Below w.heap.size w w1 := by rw [hw1]; exact ((Below.refl _ w).alloc (Nat.le_refl _) _).alloc (by simp) _
 have hp1 : Bx w1 gp 144 #[.int .u64 0, .int .i64 (t : Int), .int .i64 (s : Int), .int .i64 0, .int .i64 (k : Int), .slice none 0 0, .slice (adr Bx') len d] := by rw [hw1, hgp]; exact (Bx.new w _ _).alloc _
 have hr1 : Bx w1 gr 144 #[.int .u64 0, .int .i64 0, .int .i64 0, .int .i64 0, .int .i64 0, .slice none 0 0, .slice none 0 0] := by
  have := Bx.new (w.alloc (.cells #[.int .u64 0, .int .i64 (t : Int), .int .i64 (s : Int), .int .i64 0, .int .i64 (k : Int), .slice none 0 0, .slice (adr Bx') len d] 144)) 144 #[.int .u64 0, .int .i64 0, .int .i64 0, .int .i64 0, .int .i64 0, .slice none 0 0, .slice none 0 0];rw [hz1, <- hgr] at this;rw [hw1]; exact this
 have hv1 := h.below hb1;have hra1 := hr.below hb1;have hgx := h.box.lt;have hFB := h.book.ins;have hFD := h.disk.ins;have hmp := h.map.lt;have hpn : ¬ FB gp /\ ¬ FD gp /\ gp ≠ gx /\ gp ≠ mp := ⟨fun hh => by have := hFB _ hh; omega, fun hh => by have := hFD _ hh; omega, by omega, by omega⟩;have hrn : ¬ FB gr /\ ¬ FD gr /\ gr ≠ gx /\ gr ≠ mp := ⟨fun hh => by have := hFB _ hh; omega, fun hh => by have := hFD _ hh; omega, by omega, by omega⟩
 -- the number
 obtain ⟨w2, hw2⟩ : ∃ w2, w2 = w1.setCell ⟨gx, 9, none⟩ (.int .u64 (id1 : Int)) := ⟨_, rfl⟩;have hv2 := hv1.boxed 9 (.int .u64 (id1 : Int)) (gen' := gen) (id' := id1) (lg' := lg) (bad' := bad) rfl rfl rfl;rw [<- hw2] at hv2;have hc2 : Chg (fun x => x = gx) w1 w2 := by rw [hw2]; exact Chg.set (F := fun x => x = gx) w1 ⟨gx, 9, none⟩ _ rfl
 have hp2 := hp1.chg hc2 hpn.2.2.1;have hr2 := hr1.chg hc2 hrn.2.2.1;have hra2 := hra1.chg hc2 (fun a e => (hA a e).2.2.1)
 -- its own number
 obtain ⟨w3, hw3⟩ : ∃ w3, w3 = w2.setCell ⟨gp, 0, none⟩ (.int .u64 (id1 : Int)) := ⟨_, rfl⟩;have hc3 : Chg (fun x => x = gp) w2 w3 := by rw [hw3]; exact Chg.set (F := fun x => x = gp) w2 ⟨gp, 0, none⟩ _ rfl
 have hv3 := hv2.1.far hc3 (fun x e => by rw [e]; exact hpn);have hp3 : Bx w3 gp 144 #[.int .u64 (id1 : Int), .int .i64 (t : Int), .int .i64 (s : Int), .int .i64 0, .int .i64 (k : Int), .slice none 0 0, .slice (adr Bx') len d] := by rw [hw3]; exact hp2.set 0 _
 have hr3 := hr2.chg hc3 (show gr ≠ gp from by omega);have hra3 := hra2.chg hc3 (fun a e => by have := (hA a e).2.2.2; show a.block ≠ gp; omega);have hT3 : SvT w w3 FB FD FB FD gx := ⟨((Chg.of_below hb1).trans hc2 (fun x e => .inl (.inl e))).trans hc3 (fun x e => .inr (by rw [e, hgp]; exact Nat.le_refl _)), fun _ h => .inl h, fun _ h => .inl h⟩;have HP3 := zI hp3;have HR3 := zI hr3;have HA3 := zI hra3;have HV3 := zI hv3;have HT3 := zI hT3;have HW1 := zI hw1;have HW2 := zI hw2;have HW3 := zI hw3;have HGP := zI hgp;have HGR := zI hgr;have HAA := zI hA;have HPN := zI hpn;have HRN := zI hrn;have x9 := hv1.box.at_ 9 (v := .int .u64 (id : Int)) rfl;have f9 := hv1.box.free 9;have y9 := hv2.1.box.at_ 9 (v := .int .u64 (id1 : Int)) rfl;have z0 := hp2.at_ 0 (v := .int .u64 0) rfl;have zf := hp2.free 0;have HSP := zI (fun W (hR : Rcs W (adr Bx') len l) => Jo9 id1 t s (adr Bx') len d l W (by omega) hid ht hs hR hf ho hn.2 hc);have HID := zI hid1;clear h hr hA hf ho hroom e0 hgp hgr hw1 hz1 hb1 hp1 hr1 hv1 hra1 hgx hFB hFD hmp hpn hrn hw2 hv2 hc2 hp2 hr2 hra2 hw3 hc3 hv3 hp3 hr3 hra3 hT3 hk hlen hid1;go_enter Tryz.func83, Tryz.ntmps83;go_upto_region 1 with fail
 rw [<- HW1.out, <- HGR.out, <- HGP.out];go_upto_region 2 with fail
 rw [<- HW2.out];go_upto_region 3 with fail
 rw [<- HW3.out];clear x9 f9 y9 z0 zf;have p0 := HP3.out.at_ 0 (v := .int .u64 (id1 : Int)) rfl;have p1 := HP3.out.at_ 1 (v := .int .i64 (t : Int)) rfl;have p2 := HP3.out.at_ 2 (v := .int .i64 (s : Int)) rfl;have p6 := HP3.out.at_ 6 (v := .slice (adr Bx') len d) rfl;go_wp2_with fail
 refine (HSP.out _ HA3.out).mono ?_;rintro e w4 ⟨v, rfl, ho4, hb4⟩;have hkl : sgN len = k := by rw [HK.out, HLEN.out]
 rw [hkl] at ho4;obtain ⟨A4, c4, rfl, _⟩ := Jaq ho4;have HO4 := zI ho4;have HV4 := zI (HV3.out.below hb4);have HT4 := zI (HT3.out.trans (SvT.of_below FB FD gx hb4));have HP4 := zI (HP3.out.below hb4);have HR4 := zI (HR3.out.below hb4);have HA4 := zI (HA3.out.below hb4);have HZ4 := zI hb4.size;have hsm := Led.w3_sum a b m
 have HRS : Hid (Calls Tryz.prog 145 #[.pointer (some ⟨bk, 0, none⟩), .string ⟨#[102, 114, 101, 115, 104]⟩, .int .i64 (k : Int)] w4 fun e w' => e = .returned (.int .i64 0) /\ Led.BookAt w' (grow FB w4 w') bk (D : Int) ((N - D : Nat) : Int) us (Led.w4 (k : Int) a b m) /\ Chg FB w4 w') := by
  have X := Led.reserve_b ⟨#[102, 114, 101, 115, 104]⟩ (k : Int) w4 HV4.out.book (by decide) ⟨by omega, by rw [hsm]; have := HRM.out; rw [<- HK.out] at this; omega⟩ (by have := Led.w3_len a b m; omega);rw [sF, Led.res4] at X;exact zI X
 have x11 := HV4.out.box.at_ 11 (v := .pointer (some ⟨bk, 0, none⟩)) rfl;clear ho4 hb4 hkl hsm p0 p1 p2 p6;go_wp2_with fail
 refine HRS.out.mono ?_;rintro e w5 ⟨rfl, hB5, hc5⟩;have HX5 := zI (HV4.out.box.chg hc5 HV4.out.ngx.1);have HC5 := zI hc5;obtain ⟨FB5, hFB5⟩ : ∃ FB5, FB5 = grow FB w4 w5 := ⟨_, rfl⟩;rw [<- hFB5] at hB5;have HFB5 := zI hFB5
 have HDR : Hid (Calls Tryz.prog 146 #[.pointer (some ⟨bk, 0, none⟩), .string ⟨#[102, 114, 101, 115, 104]⟩, .int .i64 (k : Int)] w5 fun e w' => ∃ r O, e = .returned (.tuple #[r, .int .i64 0]) /\ O = Jki D N us k /\ w'.ownsRow w5.heap.size 3 1 r O.length (O.map (Value.int .i64)) /\ Led.DrawLaw (D : Int) ((N - D : Nat) : Int) us (k : Int) O /\ Led.BookAt w' FB5 bk (D : Int) ((N - D : Nat) : Int) (Led.insAll us O) (Led.w3 (some (Led.insAll (a.getD []) O)) b m) /\ Chg FB5 w5 w') := by
  have X := Led.draw_b ⟨#[102, 114, 101, 115, 104]⟩ (k : Int) w5 hB5 (by decide) (by omega) (Led.find4 (k : Int) a b m) (Int.le_refl _);rw [sF] at X;refine zI (X.mono ?_);rintro e w' ⟨r, O, h1, h2, h3, h4, h5, h6⟩;rw [Led.draw4] at h5;refine ⟨r, O, h1, ?_, h3, h4, h5, h6⟩;rw [h2]; unfold Jki; simp
 have y11 := HX5.out.at_ 11 (v := .pointer (some ⟨bk, 0, none⟩)) rfl;clear x11 hB5 hc5 hFB5;go_wp2_with fail
 refine HDR.out.mono ?_;rintro e w6 ⟨r, O, rfl, hO, hown, hDL, hB6, hc6⟩;have hOk : O.length = k := by have := hDL.len; omega
 rw [hOk] at hown;obtain ⟨a5, c5, rfl⟩ := Jqm hown;have hpn := HPN.out;have hrn := HRN.out;have hgp := HGP.out;have hgr := HGR.out;have hFBw : ∀ x, FB x -> x < w3.heap.size := HV3.out.book.ins;have hFDw : ∀ x, FD x -> x < w3.heap.size := HV3.out.disk.ins;have hz3 := HT3.out.chg.size;have hgp3 := HP3.out.lt;have hgr3 := HR3.out.lt;have hz4 := HZ4.out;have hz5 := HC5.out.size;have hz6 := hc6.size;have hf5 : ∀ x, x < w4.heap.size -> ¬ FB x -> ¬ FB5 x := fun x hx hn hh => by rw [HFB5.out] at hh; rcases hh with hh | hh; exact hn hh; have := hh.1; omega
 have hFB5w : ∀ x, FB5 x -> x < w5.heap.size := fun x hh => by
  rw [HFB5.out] at hh;rcases hh with hh | hh
  · have := hFBw x hh; omega
  · exact hh.2
 have hc46 : Chg FB w4 w6 := HC5.out.trans hc6 (fun x h => by rw [HFB5.out] at h; exact h.imp (fun h => h) (fun h => h.1));have hV6 := HV4.out.booked hB6 hc46 (fun x h => by rw [HFB5.out] at h; exact Jda h hz6);obtain ⟨w7, hw7⟩ : ∃ w7, w7 = w6.setCell ⟨gp, 5, none⟩ (.slice (adr a5) k c5) := ⟨_, rfl⟩;have hc7 : Chg (fun x => x = gp) w6 w7 := by rw [hw7]; exact Chg.set (F := fun x => x = gp) w6 ⟨gp, 5, none⟩ _ rfl
 have hz7 : w7.heap.size = w6.heap.size := by rw [hw7]; simp
 have hV7 := hV6.1.far hc7 (fun x e => by rw [e]; exact ⟨hf5 gp (by omega) hpn.1, hpn.2.1, hpn.2.2.1, hpn.2.2.2⟩);have hp6 := HP4.out.chg hc46 hpn.1;have hp7 : Bx w7 gp 144 #[.int .u64 (id1 : Int), .int .i64 (t : Int), .int .i64 (s : Int), .int .i64 0, .int .i64 (k : Int), .slice (adr a5) k c5, .slice (adr Bx') len d] := by rw [hw7]; exact hp6.set 5 _
 have hr7 := (HR4.out.chg hc46 hrn.1).chg hc7 (show gr ≠ gp from by omega);have hA7 := (HA4.out.chg hc46 (fun a e => (HAA.out a e).1)).chg hc7 (fun a e => by have := (HAA.out a e).2.2.2; show a.block ≠ gp; omega);have hS7 := Jaw (Jaw HO4.out hc46 (fun b hb hh => by have h1 := (HO4.out.lt b hb).1; have h2 := hFBw b hh; omega)) hc7 (fun b hb hh => by have h1 := (HO4.out.lt b hb).1; omega);have hO7 := Jaw hown hc7 (fun b hb hh => by have h1 := (hown.lt b hb).1; omega);have hT6 := HT4.out.trans hV6.2;have hT7 : SvT w w7 FB FD FB5 FD gx := ⟨hT6.chg.trans hc7 (fun x e => .inr (by rw [e]; omega)), fun x h => Jda (hT6.fb x h) (by omega), fun x h => Jda (hT6.fd x h) (by omega)⟩;have HAP := zI (show AIn (Apart FB5 FD gx w7) (adr Bx') from fun a e => hT7.apart (HAA.out a e));have HPP := zI (show Apart FB5 FD gx w7 gp from ⟨hf5 gp (by omega) hpn.1, hpn.2.1, hpn.2.2.1, by omega⟩);have HRP := zI (show Apart FB5 FD gx w7 gr from ⟨hf5 gr (by omega) hrn.1, hrn.2.1, hrn.2.2.1, by omega⟩);have hgx3 := HV3.out.box.lt
 have HOP := zI (show AIn (Apart FB5 FD gx w7) (adr a5) from fun a e => by
  have h1 := Jeq hO7 a e;exact ⟨fun h => by have := hFB5w _ h; omega, fun h => by have := hFDw _ h; omega, by omega, h1.2⟩)
 have HMD := zI (show AIn (made w w7) (adr a5) from fun a e => by
  have h1 := Jeq hO7 a e;exact ⟨by omega, h1.2⟩)
 have HSP' := zI (show ∀ z, (Value.slice A4 k c4).ownBlock = some z -> Apart FB5 FD gx w7 z from fun z e => by
  have h1 := HO4.out.lt z e;refine ⟨hf5 z h1.2 (fun h => by have := hFBw _ h; omega), fun h => by have := hFDw _ h; omega, by omega, by omega⟩)
 have HP7 := zI hp7;have HR7 := zI hr7;have HA7 := zI hA7;have HS7 := zI hS7;have HO7 := zI hO7;have HV7 := zI hV7;have HT7 := zI hT7;have HDL := zI hDL;have HO := zI hO;have HOK := zI hOk;have HW7 := zI hw7;have g5 := hp6.at_ 5 (v := .slice none 0 0) rfl;have g5f := hp6.free 5;clear hpn hrn hgp hgr hFBw hFDw hz3 hgp3 hgr3 hz4 hz5 hz6 hf5 hFB5w hc46 hV6 hc7 hz7 hV7 hp6 hp7 hr7 hA7 hS7 hO7 hT6 hT7 hO hDL hown hB6 hc6 hOk hw7 hgx3 y11;clear HX5 HC5 HFB5 HDR HRS;go_wp2_with fail
 clear g5 g5f;rw [<- HW7.out];go_loopw [9, 10, 11, 77] (fun _ _ _ j wr => ∃ (q' : Nat) (FDr : Nat -> Prop), q' <= k /\ j = .int .i64 (q' : Int) /\ SvS wr FB5 FDr gx N C B D R gd gen id1 mp bk (q + 2 * q') nP lg bad pf (Led.insAll us O) (some (Led.insAll (a.getD []) O)) b m (putB f (O.take q') ((sgL id1 t s l).take q')) /\ SvT w7 wr FB5 FD FB5 FDr gx) (fun _ _ _ j _ => k - (intOf j).toNat)
 case atStart => exact ⟨0, FD, Nat.zero_le _, rfl, by simpa [putB] using HV7.out, SvT.refl _ _ _ _⟩
 case round =>
  obtain ⟨q', FDr, hq', rfl, hV, hT⟩ := hrel;have hDJ := Dj.symm (F := fun x => x = gx \/ FB5 x \/ FD x) (G := Apart FB5 FD gx w7) (fun x h1 h2 => Apart.not x h2 h1);have HV := zI hV;have HT := zI hT;have HPW := zI (HP7.out.chg hT.chg (hDJ gp HPP.out));have HSW := zI (Jaw HS7.out hT.chg (fun z e => hDJ z (HSP'.out z e)));have HOW := zI (Jaw HO7.out hT.chg (fun z e => hDJ z (HOP.out ⟨z, 0, none⟩ (J5d HO7.out e))));clear hV hT hDJ;by_cases hlt : q' < k
  · have K1 : q' < O.length := by rw [HOK.out]; exact hlt
    have K2 : q' < (sgL id1 t s l).length := by rw [HLL.out]; exact hlt
    obtain ⟨_, _, e1, hs1⟩ := Jaq HSW.out;cases e1
    obtain ⟨_, _, e2, hs2⟩ := Jaq HOW.out;cases e2
    obtain ⟨b1, o1, hA4, hb1l, hc1⟩ := hs1.at_ (by intro e; have := congrArg List.length e; rw [List.length_map, HLL.out] at this; simp at this; omega);obtain ⟨b2, o2, hA5, hb2l, hc2⟩ := hs2.at_ (by intro e; have := congrArg List.length e; rw [List.length_map, HOK.out] at this; simp at this; omega);have s1 := hc1 q' (.string ((sgL id1 t s l)[q'])) (by rw [List.getElem?_map, List.getElem?_eq_getElem K2]; rfl);have s2 := hc2 q' (.int .i64 (O[q'])) (by rw [List.getElem?_map, List.getElem?_eq_getElem K1]; rfl);have HZS := zI (HSZ.out _ (List.getElem_mem K2));have hzf := HDL.out.fresh _ (List.getElem_mem K1);have HPB := zI (Jx2 (O.take q') ((sgL id1 t s l).take q') O[q'] (sgL id1 t s l)[q'] (by rw [List.length_take, List.length_take, HOK.out, HLL.out]) f);rw [<- List.take_succ_eq_append_getElem K1, <- List.take_succ_eq_append_getElem K2] at HPB;generalize (sgL id1 t s l)[q']'K2 = S at *;generalize O[q']'K1 = z at *;obtain ⟨zz, rfl⟩ : ∃ zz : Nat, z = (zz : Int) := ⟨z.toNat, by omega⟩;have hzN : zz < N := by have := HDN.out; omega
    have hdr := (Below.refl wr.heap.size wr).drew;have HVD := zI (HV.out.below hdr);have HWRT := zI ((DsW.start HVD.out.disk).write zz hzN S HZS.out (by have := hk4.2; omega));rw [<- HPB.out] at HWRT;have HPD := (HPW.out.below hdr).at_ 5 (v := .slice (adr a5) k c5) rfl;rw [hA5] at HPD;have s2D : wr.drew.cell? ⟨b2, o2 + q', none⟩ = some (.int .i64 (zz : Int)) := s2;have x7 := HVD.out.box.at_ 7 (v := .pointer (some ⟨gd, 0, none⟩)) rfl;rw [hA4];have HA4' := zI hA4;have HA5' := zI hA5;clear hs1 hs2 hc1 hc2 hzf hdr hA4 hA5 s2;go_upto_region 15 with fail
    go_region_with (first
     | (go_at_call 11
        refine HWRT.out.mono ?_;rintro e w8 ⟨rfl, hd8⟩))
    all_goals
     have hvd := HVD.out.disked hd8;have HV8 := zI hvd.1;have HT8 := zI ((HT.out.trans (SvT.of_below FB5 FDr gx (Below.refl wr.heap.size wr).drew)).trans hvd.2);clear hvd hd8 s1 s2D x7 HPD;go_wp2_with fail
     go_roundw
     case rel => exact ⟨q' + 1, _, by omega, by go_num, by rw [show q + 2 * (q' + 1) = q + 2 * q' + 2 from by omega]; exact HV8.out, HT8.out⟩
     case measure => simp [intOf]; omega
  · have hqe : q' = k := by omega
    have HTO := zI (show O.take q' = O from List.take_of_length_le (by rw [HOK.out]; omega));have HTL := zI (show (sgL id1 t s l).take q' = sgL id1 t s l from List.take_of_length_le (by rw [HLL.out]; omega));have HVE := zI (show SvS wr FB5 FDr gx N C B D R gd gen id1 mp bk (q + 2 * k) nP lg bad pf (Led.insAll us O) (some (Led.insAll (a.getD []) O)) b m (putB f O (sgL id1 t s l)) from by have := HV.out; rw [HTO.out, HTL.out, hqe] at this; exact this);have hDJ := Dj.symm (F := fun x => x = gx \/ FB5 x \/ FD x) (G := Apart FB5 FD gx w7) (fun x h1 h2 => Apart.not x h2 h1);have HRE := zI (HR7.out.chg HT.out.chg (hDJ gr HRP.out));have HAE := zI (HA7.out.chg HT.out.chg (fun a e => hDJ _ (HAP.out a e)));have v0 := HPW.out.at_ 0 rfl;have r0 := HRE.out.at_ 0 rfl;have f0 := HRE.out.free 0;have v1 := HPW.out.at_ 1 rfl;have r1 := HRE.out.at_ 1 rfl;have f1 := HRE.out.free 1;have v2 := HPW.out.at_ 2 rfl;have r2 := HRE.out.at_ 2 rfl;have f2 := HRE.out.free 2;have v3 := HPW.out.at_ 3 rfl;have r3 := HRE.out.at_ 3 rfl;have f3 := HRE.out.free 3;have v4 := HPW.out.at_ 4 rfl;have r4 := HRE.out.at_ 4 rfl;have f4 := HRE.out.free 4;have v5 := HPW.out.at_ 5 rfl;have r5 := HRE.out.at_ 5 rfl;have f5 := HRE.out.free 5;have v6 := HPW.out.at_ 6 rfl;have r6 := HRE.out.at_ 6 rfl;have f6 := HRE.out.free 6;clear hDJ;go_wp2_with fail
    obtain ⟨w9, hw9⟩ : ∃ w9, w9 = putC wr gr 0 [.int .u64 (id1 : Int), .int .i64 (t : Int), .int .i64 (s : Int), .int .i64 0, .int .i64 (k : Int), .slice (adr a5) k c5, .slice (adr Bx') len d] := ⟨_, rfl⟩;have hx9 := Jbv HRE.out [.int .u64 (id1 : Int), .int .i64 (t : Int), .int .i64 (s : Int), .int .i64 0, .int .i64 (k : Int), .slice (adr a5) k c5, .slice (adr Bx') len d] rfl;have hc9 := Jdt (g := gr) [.int .u64 (id1 : Int), .int .i64 (t : Int), .int .i64 (s : Int), .int .i64 0, .int .i64 (k : Int), .slice (adr a5) k c5, .slice (adr Bx') len d] wr 0;rw [<- hw9] at hx9 hc9;simp only [putC, Nat.zero_add, Nat.reduceAdd] at hw9;rw [<- hw9];clear v0 r0 f0 v1 r1 f1 v2 r2 f2 v3 r3 f3 v4 r4 f4 v5 r5 f5 v6 r6 f6;have q0 := hx9.at_ 0 rfl;have q1 := hx9.at_ 1 rfl;have q2 := hx9.at_ 2 rfl;have q3 := hx9.at_ 3 rfl;have q4 := hx9.at_ 4 rfl;have q5 := hx9.at_ 5 rfl;have q6 := hx9.at_ 6 rfl;have hz9 := hc9.size;have hgr := HT.out.apart HRP.out;have hgw := HGR.out;have hT0 := HT7.out.trans HT.out;have HX9 := zI (HVE.out.far hc9 (fun x e => by rw [e]; exact ⟨hgr.1, hgr.2.1, hgr.2.2.1, HRN.out.2.2.2⟩));have HT9 := zI (show SvT w w9 FB FD FB5 FDr gx from ⟨hT0.chg.trans hc9 (fun x e => .inr (by rw [e]; omega)), fun x h => Jda (hT0.fb x h) hz9, fun x h => Jda (hT0.fd x h) hz9⟩);have up : ∀ x, Apart FB5 FDr gx wr x -> Apart FB5 FDr gx w9 x := fun x h => ⟨h.1, h.2.1, h.2.2.1, Nat.lt_of_lt_of_le h.2.2.2 hz9⟩;have hO9 := Jaw HOW.out hc9 (fun b hb e => HRE.out.not_row HOW.out (by decide) (by rw [hb, e]));obtain ⟨_, _, e9, hs9⟩ := Jaq hO9;cases e9
    have hR9 := HAE.out.chg hc9 (fun a e => by have := (HAA.out a e).2.2.2; show a.block ≠ gr; omega)
    have HPM := zI (show PmAt w9 (Apart FB5 FDr gx w9) ⟨⟨id1, t, s, O⟩, l, a5, c5, Bx', d⟩ from by
     refine ⟨?_, ?_, fun a e => up _ (HT.out.apart (HOP.out a e)), fun a e => up _ (HT.out.apart (HAP.out a e))⟩
     · refine ⟨hs9, rfl, by have := HOK.out; unfold maxLen; show O.length <= _; omega, fun z hz => ?_⟩
       have h1 := HDL.out.fresh z hz;have h2 := HDN.out;exact Jbz (by omega)
     · show Rcs w9 (adr Bx') l.length l
       rw [<- HLEN.out]; exact hR9)
    have HVL := zI (show (Pm.raw ⟨⟨id1, t, s, O⟩, l, a5, c5, Bx', d⟩).val = .agg #[.int .u64 (id1 : Int), .int .i64 (t : Int), .int .i64 (s : Int), .int .i64 0, .int .i64 (k : Int), .slice (adr a5) k c5, .slice (adr Bx') len d] from by
     unfold Pm.raw PRaw.val;dsimp only;rw [HOK.out, <- HLEN.out])
    rw [<- HO.out];refine bodyPost_ret (v := .tuple #[.agg #[.int .u64 (id1 : Int), .int .i64 (t : Int), .int .i64 (s : Int), .int .i64 0, .int .i64 (k : Int), .slice (adr a5) k c5, .slice (adr Bx') len d], .int .i64 0]) (by simp [results, Tryz.results83, go_sem, q0, q1, q2, q3, q4, q5, q6]) rfl ⟨FB5, FDr, a5, c5, by rw [HVL.out], HX9.out, HT9.out, HPM.out, fun a e => ⟨(HMD.out a e).1, by have h1 := (HMD.out a e).2; have h2 := HT.out.chg.size; omega⟩, HDL.out⟩
structure SvV where
 id : Nat
 us : List Int
 f : Int -> Option ByteArray
 es : List En
def SvV.bl (D N : Nat) (v : SvV) (x : Wv) : List Int := Jki D N v.us (sgN x.2.2.length)
def SvV.en (D N : Nat) (v : SvV) (x : Wv) : En := ⟨v.id + 1, x.1, x.2.1, v.bl D N x⟩
def SvV.put (D N : Nat) (v : SvV) (x : Wv) : SvV :=
 ⟨v.id + 1, Led.insAll v.us (v.bl D N x), putB v.f (v.bl D N x) (sgL (v.id + 1) x.1 x.2.1 x.2.2), v.es ++ [v.en D N x]⟩
def needW (xs : List Wv) : Nat := (xs.map fun x => sgN x.2.2.length).sum
theorem Jlo (xs : List Wv) (x : Wv) : needW (xs ++ [x]) = needW xs + sgN x.2.2.length := by simp [needW]
theorem Juf (xs : List Wv) (k : Nat) : needW (xs.take k) <= needW xs := by
 induction xs generalizing k with
 | nil => simp [needW]
 | cons a r ih =>
   cases k with
   | zero => simp [needW]
   | succ k =>
     have := ih k;simp only [needW, List.take_succ_cons, List.map_cons, List.sum_cons] at *;omega
theorem Jfx : ∀ (zs : List Int) (ss : List ByteArray) (f : Int -> Option ByteArray) (z : Int), z ∉ zs -> putB f zs ss z = f z
 | [], _, _, _, _ => rfl
 | _ :: _, [], _, _, _ => rfl
 | a :: zs, s :: ss, f, z, h => by
   show putB (setS f a s) zs ss z = f z;rw [Jfx zs ss _ z (fun h1 => h (List.mem_cons_of_mem _ h1))];unfold setS;rw [if_neg (fun e => h (by rw [e]; exact List.mem_cons_self))]
theorem Jsn : ∀ (zs : List Int) (ss : List ByteArray) (f : Int -> Option ByteArray), zs.Nodup -> zs.length = ss.length -> ∀ j (hj : j < zs.length), putB f zs ss zs[j] = ss[j]?
 | [], _, _, _, _, _, hj => by simp at hj
 | _ :: _, [], _, _, h, _, _ => by simp at h
 | a :: zs, s :: ss, f, hn, hl, j, hj => by
   have h1 := List.nodup_cons.1 hn;cases j with
   | zero =>
     show putB (setS f a s) zs ss a = _;rw [Jfx zs ss _ a h1.1];simp [setS]
   | succ j =>
     show putB (setS f a s) zs ss (zs[j]'(by simpa using hj)) = _;rw [Jsn zs ss _ h1.2 (by simpa using hl) j (by simpa using hj)]
     simp
def J5w (f : Int -> Option ByteArray) (e : En) (l : List Rc) : Prop := ∀ j (hj : j < e.bl.length), f e.bl[j] = (sgL e.id e.tier e.shard l)[j]?
structure SvG (D N : Nat) (v0 : SvV) (xs : List Wv) (v : SvV) : Prop where
 len : v.us.length <= v0.us.length + needW xs
 id : v.id = v0.id + xs.length
 es : v.es.length = xs.length
 ids : ∀ e ∈ v.es, 1 <= e.id /\ e.id <= v.id
 sub : ∀ z ∈ v.es.flatMap En.bl, z ∈ v.us
 us : ∀ z ∈ v0.us, z ∈ v.us
 nodup : (v.es.flatMap En.bl).Nodup
 bl : ∀ e ∈ v.es, ∀ z ∈ e.bl, (D : Int) <= z /\ z < (N : Int)
 at_ : ∀ j (h1 : j < v.es.length) (h2 : j < xs.length), (v.es[j]).tier = xs[j].1 /\ (v.es[j]).shard = xs[j].2.1 /\ (v.es[j]).bl.length = sgN xs[j].2.2.length /\ J5w v.f v.es[j] xs[j].2.2
 low : ∀ z, z < (D : Int) -> v.f z = v0.f z
theorem SvG.start (D N : Nat) (v : SvV) (h : v.es = []) : SvG D N v [] v :=
 ⟨by simp [needW], by simp, by rw [h]; rfl, by rw [h]; simp, by rw [h]; simp, fun z h => h, by rw [h]; simp, by rw [h]; simp, fun j h1 h2 => by simp at h2, fun _ _ => rfl⟩
theorem SvG.put {D N : Nat} {v0 v : SvV} {xs : List Wv} (h : SvG D N v0 xs v) (x : Wv) (hD : D <= N) (hO : Led.DrawLaw (D : Int) ((N - D : Nat) : Int) v.us (sgN x.2.2.length : Int) (v.bl D N x)) : SvG D N v0 (xs ++ [x]) (v.put D N x) := by
 have hl : (v.bl D N x).length = sgN x.2.2.length := by have := hO.len; omega
 have hfr : ∀ e ∈ v.es, ∀ z ∈ e.bl, z ∉ v.bl D N x := fun e he z hz hh => (hO.fresh z hh).2.2 (h.sub z (List.mem_flatMap.2 ⟨e, he, hz⟩));refine ⟨?_, ?_, ?_, ?_, ?_, ?_, ?_, ?_, ?_, ?_⟩
 · show (Led.insAll v.us (v.bl D N x)).length <= _
   have h1 := Led.len_insAll_le (v.bl D N x) v.us;have h2 := h.len;rw [Jlo];omega
 · show v.id + 1 = _
   rw [h.id, List.length_append]; rfl
 · show (v.es ++ [_]).length = _
   rw [List.length_append, List.length_append, h.es]; rfl
 · intro e he
   rcases List.mem_append.1 (show e ∈ v.es ++ [v.en D N x] from he) with he | he
   · have := h.ids e he
     exact ⟨this.1, by show e.id <= v.id + 1; omega⟩
   · rw [List.mem_singleton.1 he]
     exact ⟨by show 1 <= v.id + 1; omega, Nat.le_refl _⟩
 · intro z hz
   have hz : z ∈ (v.es ++ [v.en D N x]).flatMap En.bl := hz;rw [List.flatMap_append] at hz;show z ∈ Led.insAll v.us (v.bl D N x);rw [Led.mem_insAll];rcases List.mem_append.1 hz with hz | hz
   · exact .inl (h.sub z hz)
   · exact .inr (by simpa [SvV.en] using hz)
 · intro z hz
   show z ∈ Led.insAll v.us (v.bl D N x);rw [Led.mem_insAll];exact .inl (h.us z hz)
 · show ((v.es ++ [v.en D N x]).flatMap En.bl).Nodup
   rw [List.flatMap_append];refine List.nodup_append.2 ⟨h.nodup, by simpa [SvV.en] using hO.nodup, fun z hz y hy e => ?_⟩;have hy : y ∈ v.bl D N x := by simpa [SvV.en] using hy
   exact (hO.fresh y hy).2.2 (by rw [<- e]; exact h.sub z hz)
 · intro e he z hz
   rcases List.mem_append.1 (show e ∈ v.es ++ [v.en D N x] from he) with he | he
   · exact h.bl e he z hz
   · rw [List.mem_singleton.1 he] at hz
     have := hO.fresh z hz;omega
 · intro j h1 h2
   have h1' : j < v.es.length + 1 := by
    have h3 : (v.put D N x).es.length = v.es.length + 1 := by show (v.es ++ [_]).length = _; rw [List.length_append]; rfl
    omega
   by_cases hj : j < v.es.length
   · have hx : j < xs.length := by rw [<- h.es]; exact hj
     obtain ⟨a1, a2, a3, a4⟩ := h.at_ j hj hx;have e1 : (v.put D N x).es[j] = v.es[j] := List.getElem_append_left (bs := [v.en D N x]) hj;have e2 : (xs ++ [x])[j] = xs[j] := List.getElem_append_left hx;rw [e1, e2];refine ⟨a1, a2, a3, fun q hq => ?_⟩;show putB v.f (v.bl D N x) _ _ = _;rw [Jfx _ _ _ _ (hfr _ (List.getElem_mem hj) _ (List.getElem_mem hq))];exact a4 q hq
   · have hje : j = v.es.length := by omega
     subst hje;have e0 : ∀ (l : List En) (y : En) (hh : l.length < (l ++ [y]).length), (l ++ [y])[l.length] = y := fun l y hh => by simp
     have e1 : (v.put D N x).es[v.es.length] = v.en D N x := e0 v.es (v.en D N x) h1;have e2 : (xs ++ [x])[v.es.length] = x := by rw [List.getElem_append_right (by rw [h.es]; exact Nat.le_refl _)]; simp [h.es]
     rw [e1, e2];refine ⟨rfl, rfl, hl, fun q hq => ?_⟩;exact Jsn _ _ v.f hO.nodup (by rw [hl, Jep]) q hq
 · intro z hz
   show putB v.f (v.bl D N x) _ z = _;rw [Jfx _ _ _ _ (fun hh => by have := hO.fresh z hh; omega)];exact h.low z hz
structure WvOk (xs : List Wv) : Prop where
 n : xs.length <= 40
 fit : ∀ x ∈ xs, x.1 < 5 /\ x.2.1 < 8 /\ 1 <= x.2.2.length /\ x.2.2.length <= 10000 /\ (∀ r ∈ x.2.2, r.Fine) /\ x.2.2.Pairwise Rc.lt
 place : (xs.map fun x => plit (x.1 : Int) (x.2.1 : Int)).Nodup
theorem Jx3 {g : Ag} (h : Jb3 g = true) : Jbh [Ag.zero, g] = g := by
 show Jbb (Jbb Ag.zero Ag.zero) g = g;have e0 : Jbb Ag.zero Ag.zero = Ag.zero := by decide
 rw [e0];unfold Jbb;rw [if_pos h];unfold Jea;rw [if_pos (show Ag.zero.c = 0 from rfl)]
theorem Jx4 {ev : Int} {r : Rc} (h : Jas ev r = true) : Jb3 r.ag = true := by
 unfold Jas at h;simp only [Bool.and_eq_true] at h;exact h.2
theorem Jso {ev : Int} {l : List Rc} {r : Rc} (h : Jas ev r = true) (hn : ∀ a ∈ l, a.same r = false) : addR ev l r = putR r l := by
 rw [Jq8 h]
 have e : agAt l r.nm r.st = Ag.zero := by
  unfold agAt;cases hf : Jid l r.nm r.st with
  | none => rfl
  | some x =>
    obtain ⟨h1, h2, h3⟩ := Jfl hf;have := hn x h1;rw [show x.same r = true from Rc.same_iff.2 ⟨h2, h3⟩] at this;cases this
 rw [e, Jx3 (Jx4 h)]
theorem Jx5 {ev : Int} {l : List Rc} {r : Rc} (h : Jas ev r = true) (hl : l.Pairwise Rc.lt) (hn : ∀ a ∈ l, a.same r = false) : (addR ev l r).Perm (r :: l) := by
 rw [Jso h hn];refine (Jiv hl).trans ?_;rw [List.filter_eq_self.2 (fun y hy => by rw [Rc.same_symm, hn y hy]; rfl)]
theorem Jsp {ev : Int} {l : List Rc} {r : Rc} (hl : l.Pairwise Rc.lt) : (addR ev l r).Pairwise Rc.lt := by
 unfold addR;split
 · exact Jly hl
 · exact hl
theorem Jsq {ev : Int} : ∀ {rs l : List Rc}, l.Pairwise Rc.lt -> (addL ev l rs).Pairwise Rc.lt
 | [], _, hl => hl
 | r :: rs, l, hl => Jsq (rs := rs) (l := addR ev l r) (Jsp hl)
theorem Jlp {ev : Int} : ∀ {rs l : List Rc}, l.Pairwise Rc.lt -> rs.Pairwise Rc.lt -> (∀ r ∈ rs, Jas ev r = true) -> (∀ a ∈ l, ∀ r ∈ rs, a.same r = false) -> (addL ev l rs).Perm (rs ++ l)
 | [], _, _, _, _, _ => List.Perm.refl _
 | r :: rs, l, hl, hrs, hr, hn => by
   rw [List.pairwise_cons] at hrs;have hp := Jx5 (hr r (by simp)) hl (fun a ha => hn a ha r (by simp));refine (Jlp (rs := rs) (l := addR ev l r) (Jsp hl) hrs.2 (fun x hx => hr x (by simp [hx])) (fun a ha x hx => ?_)).trans ?_
   · rcases List.mem_cons.1 (hp.mem_iff.1 ha) with rfl | ha
     · exact Rc.lt_not_same (hrs.1 x hx)
     · exact hn a ha x (by simp [hx])
   · refine (hp.append_left rs).trans ?_
     exact List.perm_middle
def below (n : Nat) (l : List Rc) (k : Nat) : List Rc := l.filter fun r => decide (shO n r < k)
theorem Jug (n : Nat) (l : List Rc) : below n l 0 = [] := by
 unfold below;rw [List.filter_eq_nil_iff];intro a _
 simp
theorem Jx6 {n : Nat} (hn : 1 <= n) (l : List Rc) : below n l n = l := by
 unfold below;rw [List.filter_eq_self];intro a _;exact decide_eq_true (Jll hn a).2
theorem Juh (n : Nat) (l : List Rc) (k : Nat) : (Ja0 n l k ++ below n l k).Perm (below n l (k + 1)) := by
 unfold Ja0 below
 induction l with
 | nil => exact List.Perm.refl _
 | cons a r ih =>
   rw [List.filter_cons, List.filter_cons, List.filter_cons];by_cases h1 : shO n a = k
   · rw [if_pos (decide_eq_true h1), if_neg (by simp; omega), if_pos (by simp; omega)]
     exact ih.cons a
   · rw [if_neg (by simpa using h1)]
     by_cases h2 : shO n a < k
     · rw [if_pos (by simpa using h2), if_pos (by simp; omega)]
       exact List.perm_middle.trans (ih.cons a)
     · rw [if_neg (by simpa using h2), if_neg (by simp; omega)]
       exact ih
theorem Jna {n : Nat} {l : List Rc} {k : Nat} (h : Ja0 n l k = []) : below n l (k + 1) = below n l k := by
 unfold Ja0 at h;unfold below;rw [List.filter_eq_nil_iff] at h;apply List.filter_congr;intro a ha;have := h a ha;simp at this
 simp
 omega
theorem Jsr (n : Nat) (l : List Rc) (k : Nat) : (Ja0 n l k).Sublist l := List.filter_sublist
theorem Jpc (n : Nat) (l : List Rc) (k : Nat) : (below n l k).Sublist l := List.filter_sublist
theorem Jhj {n : Nat} {l : List Rc} {k : Nat} {r : Rc} (h : r ∈ Ja0 n l k) : r ∈ l /\ shO n r = k := by
 unfold Ja0 at h;rw [List.mem_filter] at h;exact ⟨h.1, by simpa using h.2⟩
theorem Jx7 {n : Nat} {l : List Rc} {k : Nat} {r : Rc} (h : r ∈ below n l k) : r ∈ l /\ shO n r < k := by
 unfold below at h;rw [List.mem_filter] at h;exact ⟨h.1, by simpa using h.2⟩
theorem Jx8 {ev : Int} {n : Nat} {l : List Rc} (k : Nat) (ho : l.Pairwise Rc.lt) (hr : ∀ r ∈ l, Jas ev r = true) : addL ev (below n l k) (Ja0 n l k) = below n l (k + 1) := by
 have h1 := ho.sublist (Jpc n l k);have h2 := ho.sublist (Jsr n l k);refine Jpv (Jsq h1) (ho.sublist (Jpc n l (k + 1))) ?_;refine (Jlp h1 h2 (fun r hx => hr r (Jhj hx).1) (fun a ha r hx => ?_)).trans (Juh n l k);cases e : a.same r with
 | false => rfl
 | true =>
   have e1 := Rc.same_iff.1 e;have e2 := (Jx7 ha).2;have e3 := (Jhj hx).2;unfold shO at e2 e3;rw [e1.1] at e2;omega
def sumN (g : Nat -> Int) : Nat -> Int
 | 0 => 0
 | k + 1 => sumN g k + g k
theorem Jd8 {f g : Nat -> Int} : ∀ {n : Nat}, (∀ k, k < n -> f k = g k) -> sumN f n = sumN g n
 | 0, _ => rfl
 | n + 1, h => by
   unfold sumN;rw [Jd8 (fun k hk => h k (by omega)), h n (by omega)]
theorem Jpd : ∀ n : Nat, sumN (fun _ => 0) n = 0
 | 0 => rfl
 | n + 1 => by unfold sumN; rw [Jpd n]; rfl
theorem Jss {f : Nat -> Int} {a : Nat} (v : Int) : ∀ {n : Nat}, a < n -> f a = 0 -> sumN (fun k => if k = a then v else f k) n = v + sumN f n
 | 0, h, _ => by omega
 | n + 1, h, h0 => by
   unfold sumN;by_cases e : n = a
   · subst e
     rw [if_pos rfl, h0, Jd8 (f := fun k => if k = n then v else f k) (g := f) (fun k hk => if_neg (by omega))];omega
   · rw [if_neg e, Jss v (by omega) h0]
     omega
theorem Jpe {n : Nat} : ∀ {cs : List (Int × Int)}, cs.Pairwise (fun p q => p.1 ≠ q.1) -> (∀ p ∈ cs, 0 <= p.1 /\ p.1 < (n : Int)) -> Jcp cs = sumN (fun k => (atc cs (k : Int) + 2) / 3) n
 | [], _, _ => by
   show (0 : Int) = _;rw [<- Jpd n];exact Jd8 (fun k _ => rfl)
 | p :: r, ha, hb => by
   rw [List.pairwise_cons] at ha;have hp := hb p (by simp);have h0 : atc r p.1 = 0 := Jl4 (fun q hq => fun e => ha.1 q hq e.symm);have ih := Jpe ha.2 (fun q hq => hb q (by simp [hq]));have e : p.1 = ((p.1.toNat : Nat) : Int) := by omega
   show (p.2 + 2) / 3 + Jcp r = _;rw [ih, <- Jss (f := fun k => (atc r (k : Int) + 2) / 3) (a := p.1.toNat) ((p.2 + 2) / 3) (by omega) (by show (atc r ((p.1.toNat : Nat) : Int) + 2) / 3 = 0; rw [<- e, h0]; rfl)];refine Jd8 (fun k hk => ?_);have e1 : atc (p :: r) (k : Int) = if p.1 = (k : Int) then p.2 else atc r (k : Int) := rfl;rw [e1];by_cases hk' : k = p.1.toNat
   · rw [if_pos hk', if_pos (by omega)]
   · rw [if_neg hk', if_neg (by omega)]
theorem Jst (k j : Int) : ∀ cs : List (Int × Int), atc (bump k cs) j = atc cs j + if j = k then 1 else 0
 | [] => by
   unfold bump atc;by_cases e : k = j
   · subst e; simp
   · rw [if_neg e, if_neg (fun h => e h.symm)]; rfl
 | p :: r => by
   unfold bump;by_cases e : p.1 = k
   · rw [if_pos e]
     unfold atc;by_cases e2 : p.1 = j
     · rw [if_pos e2, if_pos e2, if_pos (by omega)]
     · rw [if_neg e2, if_neg e2, if_neg (by omega)]; omega
   · rw [if_neg e]
     unfold atc;by_cases e2 : p.1 = j
     · rw [if_pos e2, if_pos e2, if_neg (by omega)]; omega
     · rw [if_neg e2, if_neg e2, Jst k j r]
theorem Jui (n : Nat) (hn : 1 <= n) (l : List Rc) (k : Nat) : atc (Jdy (Jbc (n : Int) l)) (k : Int) = ((Ja0 n l k).length : Int) := by
 obtain ⟨m, rfl⟩ : ∃ m : List Rc, l = m.reverse := ⟨l.reverse, by simp⟩
 induction m with
 | nil => rfl
 | cons a r ih =>
   rw [List.reverse_cons, Jgc, Jc3, Jst, Jlm, ih, show max (n : Int) 1 = (n : Int) from by omega, (Jll hn a).1];by_cases e : shO n a = k
   · rw [if_pos e, if_pos (by omega)]; simp
   · rw [if_neg e, if_neg (by omega)]; simp
theorem Jx9 (n : Nat) (hn : 1 <= n) (l : List Rc) : ∀ p ∈ Jdy (Jbc (n : Int) l), 0 <= p.1 /\ p.1 < (n : Int) := by
 obtain ⟨m, rfl⟩ : ∃ m : List Rc, l = m.reverse := ⟨l.reverse, by simp⟩
 induction m with
 | nil => intro p hp; cases hp
 | cons a r ih =>
   intro p hp;rw [List.reverse_cons, Jgc, Jc3] at hp;rcases Jl2 hp with h | h
   · rw [h, show max (n : Int) 1 = (n : Int) from by omega, (Jll hn a).1]
     have := (Jll hn a).2;omega
   · exact ih p h
theorem Jya (n : Nat) (hn : 1 <= n) (l : List Rc) : Jhr (n : Int) l = sumN (fun k => (sgN (Ja0 n l k).length : Int)) n := by
 unfold Jhr;rw [Jpe (Jpx _) (Jx9 n hn l)];refine Jd8 (fun k _ => ?_);show (atc (Jdy (Jbc (n : Int) l)) (k : Int) + 2) / 3 = _;rw [Jui n hn];unfold sgN;omega
theorem Jpf (a b : List Wv) : needW (a ++ b) = needW a + needW b := by simp [needW]
theorem Jj5 (i n : Nat) (l : List Rc) : ∀ k, (needW (Jdk i n l k) : Int) = sumN (fun k => (sgN (Ja0 n l k).length : Int)) k
 | 0 => rfl
 | k + 1 => by
   rw [Jd7, Jpf];unfold sumN;rw [<- Jj5 i n l k];by_cases e : Ja0 n l k = []
   · rw [if_pos e, e]; simp [needW, sgN]
   · rw [if_neg e]; simp [needW]
theorem Jic {t : Tv} (h : ∀ i, i < t.tabs.length -> 1 <= t.r.sh i) : ∀ k, k <= t.tabs.length -> (needW (Jah t k) : Int) = Jbt t k
 | 0, _ => rfl
 | k + 1, hk => by
   have hs := h k (by omega);obtain ⟨n, hn⟩ : ∃ n : Nat, t.r.sh k = (n : Int) := ⟨(t.r.sh k).toNat, by omega⟩;rw [Jdl, Jpf];unfold Jbt;rw [Int.natCast_add, Jic h k (by omega)];unfold Jue;rw [hn, Int.toNat_natCast, Jj5, Jya n (by omega)]
end Go.Proofs.YtalkkhafcfhglaaGreatDoor
