/-
  Several texts in one: WantB, Svs.
-/
import Derived.Test.YtalkkhafcfhglaaGreatDoorQ33
import Derived.Test.YtalkkhafcfhglaaGreatDoorQ29
set_option maxRecDepth 100000
set_option maxHeartbeats 4000000
namespace Go.Proofs.YtalkkhafcfhglaaGreatDoor
open Go.RowKit
theorem Jpb (i n : Nat) (l : List Rc) (k : Nat) : (Jdk i n l k).length <= k := by
 induction k with
 | zero => simp [Jdk]
 | succ k ih =>
   rw [Jd7, List.length_append];split <;> simp <;> omega
theorem Jln (t : Tv) (k : Nat) (h : ∀ j, j < k -> (t.r.sh j).toNat <= 8) : (Jah t k).length <= 8 * k := by
 induction k with
 | zero => simp [Jah]
 | succ k ih =>
   rw [Jdl, List.length_append];have h1 := ih (fun j hj => h j (by omega));have h2 := Jpb k (t.r.sh k).toNat (t.tab k) (t.r.sh k).toNat;have h3 := h k (by omega);unfold Jue;omega
structure Tv.Want (t : Tv) : Prop where
 n : 1 <= t.tabs.length /\ t.tabs.length <= 5
 sh : ∀ i, i < t.tabs.length -> 1 <= t.r.sh i /\ t.r.sh i <= 8
 few : ∀ i, i < t.tabs.length -> (t.tab i).length <= 900000
 ok : ∀ i, i < t.tabs.length -> ∀ r ∈ t.tab i, r.Ok
theorem J4b {F : Nat -> Prop} {gt go : Nat} {t : Tv} (A : Option Addr) (n c : Nat) (w : World) (h : Jal w F gt t) (hgo : ¬ F go) (hT : Tis w A n t.r.ts) (hA : AIn F A) (hn : n = t.tabs.length) (hW : t.Want) (hx : Bx w go 91 #[.slice none 0 0]) :
  Calls Tryz.prog 152 #[.int .i64 0, .agg #[.string t.r.nm, .slice A n c], .func (Fn.func 104) #[.pointer (some ⟨gt, 0, none⟩)] #[], .pointer (some ⟨go, 0, none⟩)] w fun e w' => e = .returned (.tuple #[]) /\ ∃ A' c' ws, WdS w w' go A' c' ws /\ ws.map Wm.v = Jah t n := by
 have HTA := zI h;have HTI := zI hT;have HFA := zI hA;have HN := zI hn;have HWT := zI hW;have HLT := zI hT.len;have hn5 : 1 <= n /\ n <= 5 := by rw [hn]; exact hW.n
 have hba := (Below.refl w.heap.size w).alloc (Nat.le_refl _) (.cells #[.string t.r.nm, .slice A n c] 63);have HS0 := zI (show WdS w (w.alloc (.cells #[.string t.r.nm, .slice A n c] 63)) go none 0 [] from ⟨hx.below hba, World.ownsRow_nil _ _ _ _, fun x hx => by simp at hx, Chg.of_below hba, hx.lt⟩);clear h hT hA hn hW hba hx;go_enter Tryz.func152, Tryz.ntmps152;go_wp2_with fail
 obtain ⟨w1, hw1⟩ : ∃ w1, w1 = w.alloc (.cells #[.string t.r.nm, .slice A n c] 63) := ⟨_, rfl⟩;rw [<- hw1] at HS0 ⊢;clear hw1;go_loopw [15] (fun j wr => ∃ (i : Nat) (A' : Option Addr) (c' : Nat) (ws : List Wm), i <= n /\ j = .int .i64 (i : Int) /\ WdS w wr go A' c' ws /\ ws.map Wm.v = Jah t i) (fun j _ => n - (intOf j).toNat)
 case atStart => exact ⟨0, none, 0, [], Nat.zero_le _, rfl, HS0.out, rfl⟩
 case round =>
  obtain ⟨i, A', c', ws, hi, rfl, hS, hv⟩ := hrel;by_cases hlt : i < n
  · have K : i < t.r.ts.length := by rw [HLT.out]; exact hlt
    have hit : i < t.tabs.length := by rw [<- HN.out]; exact hlt
    obtain ⟨b, off, rfl, hbl, T0, T1, T2, T3⟩ := (HTI.out.chg hS.chg (fun a e h => hgo (by rw [<- h]; exact HFA.out a e))).get K;have HEV := zI (Rch.sh_at K);have hsh := HWT.out.sh i hit;have HFW := zI (HWT.out.few i hit);have HOK := zI (HWT.out.ok i hit);have HWS := zI (Jdl t i);have HWL := zI (Jln t i (fun j hj => by have := HWT.out.sh j (by omega); omega));unfold Jue at HWS;have hta := HTA.out.chg hS.chg (fun b hb e => hgo (by rw [<- e]; exact hb));generalize (t.r.ts[i]'K) = tt at *;obtain ⟨n2, hn2⟩ : ∃ n2 : Nat, (n2 : Int) = tt.sh := ⟨tt.sh.toNat, by rw [HEV.out] at hsh; omega⟩;have hn8 : 1 <= n2 /\ n2 <= 8 := by rw [HEV.out] at hsh; omega
    rw [show (t.r.sh i).toNat = n2 from by rw [HEV.out, <- hn2]; simp] at HWS;rw [<- hn2] at T3;have hbx := (Below.refl wr.heap.size wr).alloc (Nat.le_refl _) (.cells #[.string tt.nm, .int .i64 tt.ev, .int .i64 tt.kp, .int .i64 (n2 : Int)] 119);have hxx := Bx.new wr 119 #[.string tt.nm, .int .i64 tt.ev, .int .i64 tt.kp, .int .i64 (n2 : Int)];obtain ⟨gb, hgb⟩ : ∃ gb, gb = wr.heap.size := ⟨_, rfl⟩;obtain ⟨w5, hw5⟩ : ∃ w5, w5 = wr.alloc (.cells #[.string tt.nm, .int .i64 tt.ev, .int .i64 tt.kp, .int .i64 (n2 : Int)] 119) := ⟨_, rfl⟩;rw [<- hw5] at hbx hxx;rw [<- hgb] at hxx;have hd5 := (Below.refl w5.heap.size w5).drew;have HRC := zI (Jmi w5.drew ((hta.below hbx).below hd5) i hit (by have := HFW.out; omega));have HS5 := zI ((hS.below hbx).below hd5);have HX5 := zI (hxx.below hd5);have HGB := zI hgb;have HW5 := zI hw5;have HV := zI hv;generalize t.tab i = l at *;clear hS hv hta hbx hxx hgb hw5 hd5 hsh hn2;go_upto_region 4 with fail
    rw [<- HW5.out, <- HGB.out];clear T0 T1 T2 T3;have hx3 := HX5.out.at_ 3 (v := .int .i64 (n2 : Int)) rfl
    go_region_held3 (fun w' => w'.cell? ⟨gb, 3, none⟩ = some (.int .i64 (n2 : Int)))
     (first
       | with_reducible exact hx3
       | with_reducible exact hx6
       | with_reducible exact hx7)
     (first
       | (go_at_call 104
          refine HRC.out.mono ?_;rintro e w6 ⟨v6, rfl, ho6, hb6⟩;obtain ⟨A6, c6, rfl, hr6⟩ := Jl5 ho6 HOK.out (by have := HFW.out; unfold maxLen; omega);have hx6 := (HX5.out.below hb6).at_ 3 (v := .int .i64 (n2 : Int)) rfl)
       | (go_at_call 153
          refine (J1g A6 l.length c6 n2 l w6 hr6 hn8 HFW.out).mono ?_;rintro e w7 ⟨gO, cell, rfl, hsp⟩;have hx7 := ((HX5.out.below hb6).below hsp.bel).at_ 3 (v := .int .i64 (n2 : Int)) rfl))
    go_split_ands;have HS7 := zI ((HS5.out.below hb6).below hsp.bel);have HK7 := zI (SpK.of hsp (show w.heap.size <= w6.heap.size from Nat.le_trans HS5.out.chg.size hb6.size));have HV7 := zI HV.out;clear ho6 hb6 hr6 hsp hx3 hx6 hx7 HX5 HS5 HRC;go_wp2_with fail
    obtain ⟨wo, hwo⟩ : ∃ wo : World, wo = wr := ⟨_, rfl⟩;rw [<- hwo] at HGB HW5 hbl;clear hwo;go_loopw [27] (fun j wq => ∃ (k : Nat) (A'' : Option Addr) (c'' : Nat) (ws' : List Wm), k <= n2 /\ j = .int .i64 (k : Int) /\ WdS w wq go A'' c'' ws' /\ SpK w wq gO n2 cell (Ja0 n2 l) /\ ws'.map Wm.v = Jah t i ++ Jdk i n2 l k) (fun j _ => n2 - (intOf j).toNat)
    case atStart => exact ⟨0, A', c', ws, Nat.zero_le _, rfl, HS7.out, HK7.out, by rw [HV7.out]; simp [Jdk]⟩
    case round =>
     obtain ⟨k, A'', c'', ws', hk, rfl, hS, hK, hv⟩ := hrel;by_cases hltk : k < n2
     · have ck := hK.box.at_ k (v := cell k) (by simp [hltk])
       obtain ⟨Bk, dk, hce⟩ := Jqm (hK.row k hltk);rw [hce] at ck;have HWK := zI (Jd7 i n2 l k)
       have HWN := zI (show ws'.length <= 100 from by
        have h1 := congrArg List.length hv;rw [List.length_map, List.length_append] at h1;have h2 := Jpb i n2 l k;have h3 := HWL.out;omega)
       have HLE := zI (Jj4 n2 l k);have HRK := zI (show wr.ownsRow w.heap.size 169 7 (.slice (adr Bk) (Ja0 n2 l k).length dk) (Ja0 n2 l k).length ((Ja0 n2 l k).flatMap Rc.cells) from by rw [<- hce]; exact hK.row k hltk);obtain ⟨pl, hpl⟩ : ∃ pl, pl = Ja0 n2 l k := ⟨_, rfl⟩;rw [<- hpl] at ck HWK HLE HRK;have HPL := zI hpl;have HCE := zI hce;obtain ⟨len, hlen⟩ : ∃ len, len = pl.length := ⟨_, rfl⟩;rw [<- hlen] at ck HRK HLE;have HLN := zI hlen;have HS := zI hS;have HK := zI hK;have HVV := zI hv;have hl9 : len <= 900000 := by have := HLE.out; have := HFW.out; omega
       clear hS hK hv hpl hlen hce;by_cases hz : len = 0
       · have HE := zI (show Jah t i ++ Jdk i n2 l (k + 1) = Jah t i ++ Jdk i n2 l k from by
          rw [HWK.out, if_pos (List.eq_nil_of_length_eq_zero (by rw [<- HLN.out]; exact hz)), List.append_nil])
         have d0 : decide ((0 : Int) < (len : Int)) = false := decide_eq_false (by omega);have d1 : decide (0 < len) = false := decide_eq_false (by omega);go_wp2_with fail
         go_roundw
         case rel => exact ⟨k + 1, A'', c'', ws', by omega, by go_num, HS.out, HK.out, by rw [HE.out]; exact HVV.out⟩
         case measure => simp [intOf]; omega
       · have HE := zI (show Jah t i ++ Jdk i n2 l (k + 1) = (Jah t i ++ Jdk i n2 l k) ++ [(i, k, pl)] from by
          rw [HWK.out, if_neg (fun e => hz (by rw [HLN.out, e]; rfl)), List.append_assoc])
         have d0 : decide ((0 : Int) < (len : Int)) = true := decide_eq_true (by omega);have d1 : decide (0 < len) = true := decide_eq_true (by omega);have HSB := zI (Jfi len wr (by omega));have hba := (Below.refl wr.heap.size wr).alloc (Nat.le_refl _) (.cells #[.int .u64 0, .int .i64 (i : Int), .int .i64 (k : Int), .int .i64 0, .int .i64 (sgN len : Int), .slice none 0 0] 139);have hbx := Bx.new wr 139 #[.int .u64 0, .int .i64 (i : Int), .int .i64 (k : Int), .int .i64 0, .int .i64 (sgN len : Int), .slice none 0 0];obtain ⟨ge, hge⟩ : ∃ ge, ge = wr.heap.size := ⟨_, rfl⟩;obtain ⟨w8, hw8⟩ : ∃ w8, w8 = wr.alloc (.cells #[.int .u64 0, .int .i64 (i : Int), .int .i64 (k : Int), .int .i64 0, .int .i64 (sgN len : Int), .slice none 0 0] 139) := ⟨_, rfl⟩;rw [<- hw8] at hba hbx;rw [<- hge] at hbx;have hbp := (Below.refl w8.heap.size w8).alloc (Nat.le_refl _) (.cells #[.int .u64 0, .int .i64 (i : Int), .int .i64 (k : Int), .int .i64 0, .int .i64 (sgN len : Int), .slice none 0 0, .slice (adr Bk) len dk] 144);have HS8 := zI ((HS.out.below hba).below hbp);have HK8 := zI ((HK.out.below hba).below hbp);have HR8 := zI (Jaj (Jaj HRK.out hba) hbp);have HX8 := zI hbx;have y0 := (HS.out.below hba).box.at_ 0 (v := .slice A'' ws'.length c'') rfl;have HSL := zI (Sl.new w8 144 w8.heap.size [.int .u64 0, .int .i64 (i : Int), .int .i64 (k : Int), .int .i64 0, .int .i64 (sgN len : Int), .slice none 0 0, .slice (adr Bk) len dk] #[.int .u64 0, .int .i64 (i : Int), .int .i64 (k : Int), .int .i64 0, .int .i64 (sgN len : Int), .slice none 0 0, .slice (adr Bk) len dk] rfl rfl);have HON := zI (show ∀ u ∈ ([.int .u64 0, .int .i64 (i : Int), .int .i64 (k : Int), .int .i64 0, .int .i64 (sgN len : Int), .slice none 0 0, .slice (adr Bk) len dk] : List Value), u.oneCell' = true from by intro u hu; simp at hu; rcases hu with rfl | rfl | rfl | rfl | rfl | rfl | rfl <;> rfl)
         have HNN := zI (show ws'.length + 1 <= 1000000 from by have := HWN.out; omega);have HBB := zI (show w.heap.size <= (w8.alloc (.cells #[.int .u64 0, .int .i64 (i : Int), .int .i64 (k : Int), .int .i64 0, .int .i64 (sgN len : Int), .slice none 0 0, .slice (adr Bk) len dk] 144)).heap.size from HS8.out.chg.size);have HGE := zI hge;have HW8 := zI hw8;clear hba hbx hge hw8 hbp;go_wp2_with fail
         refine HSB.out.mono ?_;rintro e wz ⟨rfl, hw⟩;subst hw;have HCX := zI (show Wm.cells ⟨i, k, pl, Bk, dk⟩ = [.int .u64 0, .int .i64 (i : Int), .int .i64 (k : Int), .int .i64 0, .int .i64 (sgN len : Int), .slice none 0 0, .slice (adr Bk) len dk] from by unfold Wm.cells Wm.raw; dsimp only; rw [<- HLN.out]; rfl);go_upto_region 9 with fail
         rw [<- HW8.out, <- HGE.out];have e0 := HX8.out.at_ 0 rfl;have e1 := HX8.out.at_ 1 rfl;have e2 := HX8.out.at_ 2 rfl;have e3 := HX8.out.at_ 3 rfl;have e4 := HX8.out.at_ 4 rfl;have e5 := HX8.out.at_ 5 rfl;go_wp2_with (at_builtin; refine Jz9 rfl _ _ rfl HS8.out.own rfl (some ⟨w8.heap.size, 0, none⟩) 1 1 [.int .u64 0, .int .i64 (i : Int), .int .i64 (k : Int), .int .i64 0, .int .i64 (sgN len : Int), .slice none 0 0, .slice (adr Bk) len dk] rfl rfl HSL.out HON.out HNN.out HBB.out ?_; intro A9 c9 w9 ho9 hg9; have hbg := HS8.out.box.grown hg9 (HS8.out.box.not_row HS8.out.own (by decide)); have z0 := hbg.at_ 0 rfl; have zf := hbg.free 0)
         have HWD := zI (HS8.out.snoc ⟨i, k, pl, Bk, dk⟩ (by dsimp only; rw [<- HLN.out]; exact HR8.out) hg9 (by rw [HCX.out]; exact ho9));have HKD := zI (HK8.out.laid HS8.out hg9 (.slice A9 (ws'.length + 1) c9));clear ho9 hg9 hbg z0 zf e0 e1 e2 e3 e4 e5 y0;go_wp2_with fail
         go_roundw
         case rel => exact ⟨k + 1, A9, c9, ws' ++ [⟨i, k, pl, Bk, dk⟩], by omega, by go_num, HWD.out, HKD.out, by rw [List.map_append, HVV.out, HE.out]; rfl⟩
         case measure => simp [intOf]; omega
     · have hke : k = n2 := by omega
       rw [hke, <- HWS.out] at hv;have HSE := zI hS;have HVE := zI hv;clear hS hK hv;go_wp2_with fail
       go_roundw
       case rel => exact ⟨i + 1, A'', c'', ws', by omega, by go_num, HSE.out, HVE.out⟩
       case measure => simp [intOf]; omega
  · have hie : i = n := by omega
    rw [hie] at hv;have HSE := zI hS;have HVE := zI hv;clear hS hv;go_wp2_with fail
    go_end0
    exact ⟨rfl, A', c', ws, HSE.out, HVE.out⟩
theorem Jx1 {F : Nat -> Prop} {g room : Nat} {t : Tv} (w : World) (h : StAt w F g room t) (hW : t.Want) :
  Calls Tryz.prog 81 #[.pointer (some ⟨g, 0, none⟩)] w fun e w' => ∃ (A : Option Addr) (c : Nat) (ws : List Wm), e = .returned (.slice A ws.length c) /\ w'.ownsRow w.heap.size 144 7 (.slice A ws.length c) ws.length (ws.flatMap Wm.cells) /\
   (∀ x ∈ ws, w'.ownsRow w.heap.size 169 7 (.slice (adr x.B) x.l.length x.d) x.l.length (x.l.flatMap Rc.cells)) /\ ws.map Wm.v = Jah t t.tabs.length /\ Below w.heap.size w w' := by
 have hba := (Below.refl w.heap.size w).alloc (Nat.le_refl _) (.cells #[.slice none 0 0] 91);have hbx := Bx.new w 91 #[.slice none 0 0];have hz0 : (w.alloc (.cells #[.slice none 0 0] 91)).heap.size = w.heap.size + 1 := by simp
 have HT := zI (Jld _ (h.below hba));have HST := zI (fun W (hW : Below w.heap.size w W) => Jjv W (h.below hW));have HWT := zI hW;have HBA := zI hba;have HBX := zI hbx;have HZ0 := zI hz0;clear h hba hbx hz0 hW;go_enter Tryz.func81, Tryz.ntmps81;go_wp2_with fail
 refine HT.out.mono ?_;rintro e w1 ⟨gt, rfl, hT1, hb1⟩;obtain ⟨A, c, B, m, d, L, cl, ga, gm, hX, hR, hc, hm, hFA, hFB, hTB⟩ := hT1.ex;have hgo : ¬ made (w.alloc (.cells #[.slice none 0 0] 91)) w1 w.heap.size := fun hh => by have := hh.1; have := HZ0.out; omega
 obtain ⟨n, hn⟩ : ∃ n, n = t.tabs.length := ⟨_, rfl⟩;rw [<- hn] at hX hR;have x1 := hX.at_ 1 rfl;have x2 := hX.at_ 2 rfl;have HAD := zI (J4b (go := w.heap.size) A n c w1 hT1 hgo hR.ts hFA hn HWT.out (HBX.out.below hb1));have HB1 := zI (HBA.out.trans (hb1.mono HBA.out.size));have HN := zI hn;clear hT1 hX hR hFA hFB hTB hgo hb1 hn hc hm;go_wp2_with fail
 refine HAD.out.mono ?_;rintro e w2 ⟨rfl, A', c', ws, hS, hv⟩;have hs1 := HB1.out.size;have HB2 := zI (Chg.madeF HB1.out hS.chg (fun b e => by rw [e]; exact Nat.le_refl _));have HSH := zI (HST.out _ HB2.out);have y0 := hS.box.at_ 0 (v := .slice A' ws.length c') rfl;have HRW := zI (Jdp hS.own hs1);have HRR := zI (fun x hx => Jdp (hS.row x hx) hs1);have HV := zI hv;clear hS hv x1 x2;go_wp2_with fail
 refine HSH.out.mono ?_;rintro e w3 ⟨rfl, hw⟩;subst hw;go_wp2_with fail
 go_ret;exact ⟨A', c', ws, rfl, HRW.out, HRR.out, by rw [HV.out, HN.out], HB2.out⟩
def Apart (FB FD : Nat -> Prop) (gx : Nat) (w : World) (x : Nat) : Prop := ¬ FB x /\ ¬ FD x /\ x ≠ gx /\ x < w.heap.size
structure SvT (w w' : World) (FB FD FB' FD' : Nat -> Prop) (gx : Nat) : Prop where
 chg : Chg (fun x => x = gx \/ FB x \/ FD x) w w'
 fb : ∀ x, FB' x -> grow FB w w' x
 fd : ∀ x, FD' x -> grow FD w w' x
theorem SvT.refl (w : World) (FB FD : Nat -> Prop) (gx : Nat) : SvT w w FB FD FB FD gx := ⟨Chg.refl _ _, fun _ h => .inl h, fun _ h => .inl h⟩
theorem SvT.of_below {w w' : World} (FB FD : Nat -> Prop) (gx : Nat) (h : Below w.heap.size w w') : SvT w w' FB FD FB FD gx := ⟨Chg.of_below h, fun _ h => .inl h, fun _ h => .inl h⟩
theorem SvT.trans {w w1 w' : World} {FB FD FB1 FD1 FB' FD' : Nat -> Prop} {gx : Nat} (h : SvT w w1 FB FD FB1 FD1 gx) (k : SvT w1 w' FB1 FD1 FB' FD' gx) : SvT w w' FB FD FB' FD' gx := by
 refine ⟨h.chg.trans k.chg ?_, fun x hx => ?_, fun x hx => ?_⟩
 · rintro x (rfl | hx | hx)
   · exact .inl (.inl rfl)
   · exact (h.fb x hx).imp (fun y => .inr (.inl y)) (fun y => y.1)
   · exact (h.fd x hx).imp (fun y => .inr (.inr y)) (fun y => y.1)
 · rcases k.fb x hx with y | y
   · exact Jda (h.fb x y) k.chg.size
   · exact .inr (Jc9 y h.chg.size)
 · rcases k.fd x hx with y | y
   · exact Jda (h.fd x y) k.chg.size
   · exact .inr (Jc9 y h.chg.size)
theorem SvT.apart {w w' : World} {FB FD FB' FD' : Nat -> Prop} {gx x : Nat} (h : SvT w w' FB FD FB' FD' gx) (ha : Apart FB FD gx w x) : Apart FB' FD' gx w' x := by
 obtain ⟨h1, h2, h3, h4⟩ := ha;refine ⟨fun hx => ?_, fun hx => ?_, h3, Nat.lt_of_lt_of_le h4 h.chg.size⟩
 · rcases h.fb x hx with y | y
   · exact h1 y
   · have := y.1; omega
 · rcases h.fd x hx with y | y
   · exact h2 y
   · have := y.1; omega
theorem Apart.not {w : World} {FB FD : Nat -> Prop} {gx : Nat} : Dj (Apart FB FD gx w) (fun x => x = gx \/ FB x \/ FD x) := by
 rintro x ⟨h1, h2, h3, _⟩ (rfl | h | h)
 · exact h3 rfl
 · exact h1 h
 · exact h2 h
structure SvS (w : World) (FB FD : Nat -> Prop) (gx N C B D R gd gen id mp bk q nP : Nat) (lg : Option Addr) (bad : Int) (pf : Nat -> Nat -> Option PRaw) (us : List Int) (a b m : Option (List Int)) (f : Int -> Option ByteArray) : Prop where
 box : Bx w gx 48 (Jcv N C B D R ⟨gd, 0, none⟩ gen id mp bk lg bad)
 map : PMap w mp nP pf
 book : Led.BookAt w FB bk (D : Int) ((N - D : Nat) : Int) us (Led.w3 a b m)
 disk : DsAt w FD gd N q f
 dj : Dj FB FD
 ngx : ¬ FB gx /\ ¬ FD gx
 nmp : ¬ FB mp /\ ¬ FD mp
section
variable {w w' : World} {FB FD : Nat -> Prop} {gx N C B D R gd gen id mp bk q nP : Nat} {lg : Option Addr} {bad : Int} {pf : Nat -> Nat -> Option PRaw} {us : List Int} {a b m : Option (List Int)} {f : Int -> Option ByteArray}
theorem SvS.ne (h : SvS w FB FD gx N C B D R gd gen id mp bk q nP lg bad pf us a b m f) : mp ≠ gx := fun e => h.map.nocells _ _ _ (by rw [e]; exact h.box.blk)
theorem SvS.below (h : SvS w FB FD gx N C B D R gd gen id mp bk q nP lg bad pf us a b m f) (hb : Below w.heap.size w w') : SvS w' FB FD gx N C B D R gd gen id mp bk q nP lg bad pf us a b m f :=
 ⟨h.box.below hb, h.map.below hb, h.book.below hb, h.disk.below hb, h.dj, h.ngx, h.nmp⟩
theorem SvS.far (h : SvS w FB FD gx N C B D R gd gen id mp bk q nP lg bad pf us a b m f) {G : Nat -> Prop} (hc : Chg G w w') (hG : ∀ x, G x -> ¬ FB x /\ ¬ FD x /\ x ≠ gx /\ x ≠ mp) : SvS w' FB FD gx N C B D R gd gen id mp bk q nP lg bad pf us a b m f :=
 ⟨h.box.chg hc (fun g => (hG _ g).2.2.1 rfl), h.map.chg hc (fun g => (hG _ g).2.2.2 rfl), h.book.chg hc (fun x hx g => (hG x g).1 hx), h.disk.chg hc (fun x hx g => (hG x g).2.1 hx), h.dj, h.ngx, h.nmp⟩
theorem SvS.boxed (h : SvS w FB FD gx N C B D R gd gen id mp bk q nP lg bad pf us a b m f) (k : Nat) (v : Value) {gen' id' mp' bk' : Nat} {lg' : Option Addr} {bad' : Int}
  (e : (Jcv N C B D R ⟨gd, 0, none⟩ gen id mp bk lg bad).setIfInBounds k v = Jcv N C B D R ⟨gd, 0, none⟩ gen' id' mp bk lg' bad') (_hm : mp' = mp) (_hk : bk' = bk) :
  SvS (w.setCell ⟨gx, k, none⟩ v) FB FD gx N C B D R gd gen' id' mp bk q nP lg' bad' pf us a b m f /\ SvT w (w.setCell ⟨gx, k, none⟩ v) FB FD FB FD gx := by
 have hc : Chg (fun x => x = gx) w (w.setCell ⟨gx, k, none⟩ v) := Chg.set (F := fun x => x = gx) w ⟨gx, k, none⟩ v rfl;refine ⟨⟨by rw [<- e]; exact h.box.set k v, h.map.chg hc (fun e => h.ne e), h.book.chg hc (fun x hx e => h.ngx.1 (by rw [<- e]; exact hx)), h.disk.chg hc (fun x hx e => h.ngx.2 (by rw [<- e]; exact hx)), h.dj, h.ngx, h.nmp⟩, hc.sub (fun x e => .inl e), fun _ h => .inl h, fun _ h => .inl h⟩
theorem SvS.booked (h : SvS w FB FD gx N C B D R gd gen id mp bk q nP lg bad pf us a b m f) {FB' : Nat -> Prop} {us' : List Int} {a' b' m' : Option (List Int)} (hk : Led.BookAt w' FB' bk (D : Int) ((N - D : Nat) : Int) us' (Led.w3 a' b' m')) (hc : Chg FB w w') (hs : ∀ x, FB' x -> grow FB w w' x) :
  SvS w' FB' FD gx N C B D R gd gen id mp bk q nP lg bad pf us' a' b' m' f /\ SvT w w' FB FD FB' FD gx := by
 have far : ∀ x, x < w.heap.size -> ¬ FB x -> ¬ FB' x := fun x hx hn hf => by
  rcases hs x hf with y | y
  · exact hn y
  · have := y.1; omega
 refine ⟨⟨h.box.chg hc h.ngx.1, h.map.chg hc h.nmp.1, hk, h.disk.chg hc h.dj.symm, fun x hx hd => ?_, ⟨far _ h.box.lt h.ngx.1, h.ngx.2⟩, ⟨far _ h.map.lt h.nmp.1, h.nmp.2⟩⟩, hc.sub (fun x e => .inr (.inl e)), hs, fun _ h => .inl h⟩;exact far x (h.disk.ins x hd) (fun hf => h.dj x hf hd) hx
theorem SvS.disked (h : SvS w FB FD gx N C B D R gd gen id mp bk q nP lg bad pf us a b m f) {q' : Nat} {f' : Int -> Option ByteArray} (hk : DsW w FD w' gd N q' f') :
  SvS w' FB (grow FD w w') gx N C B D R gd gen id mp bk q' nP lg bad pf us a b m f' /\ SvT w w' FB FD FB (grow FD w w') gx := by
 have hc := hk.chg
 have far : ∀ x, x < w.heap.size -> ¬ FD x -> ¬ grow FD w w' x := fun x hx hn hf => by
  rcases hf with y | y
  · exact hn y
  · have := y.1; omega
 refine ⟨⟨h.box.chg hc h.ngx.2, h.map.chg hc h.nmp.2, h.book.chg hc h.dj, hk.at_, fun x hx hd => ?_, ⟨h.ngx.1, far _ h.box.lt h.ngx.2⟩, ⟨h.nmp.1, far _ h.map.lt h.nmp.2⟩⟩, hc.sub (fun x e => .inr (.inr e)), fun _ h => .inl h, fun _ h => h⟩;exact far x (h.book.ins x hx) (h.dj x hx) hd
end
end Go.Proofs.YtalkkhafcfhglaaGreatDoor
