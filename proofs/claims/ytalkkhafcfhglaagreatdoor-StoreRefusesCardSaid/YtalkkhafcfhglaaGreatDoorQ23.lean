/-
  Several texts in one: StaC, Cata, Catb.
-/
import Derived.Test.YtalkkhafcfhglaaGreatDoorQ22
set_option maxRecDepth 100000
set_option maxHeartbeats 4000000
namespace Go.Proofs.YtalkkhafcfhglaaGreatDoor
open Go.RowKit
set_option linter.unusedSimpArgs false in
theorem J0u {F : Nat -> Prop} {g room : Nat} {t : Tv} {A : Option Addr} {n c : Nat} {l : List Smp} (w : World) (h : StAt w F g room t) (h1 : 1 <= t.tabs.length) (h3 : t.tabs.length <= 1000) (hl : Smps w A n l) (hn : 1 <= n /\ n <= 8) (hfew : ∀ i, i < t.tabs.length -> (t.tab i).length <= 900000)
  (hg : ∀ s ∈ l, t.r.Gets s) (hev : ∀ i, i < t.tabs.length -> -9223372036854775808 <= t.r.ev i /\ t.r.ev i <= 9223372036854775807) (hf : (t.put l).Few) (hneed : (t.put l).need <= (room : Int)) :
  Calls Tryz.prog 22 #[.pointer (some ⟨g, 0, none⟩), .slice A n c] w fun e w' => e = .returned (.int .i64 0) /\ StAt w' (grow F w w') g room (t.put l) /\ Chg F w w' := by
 have HNO := zI (Jod w h);have HGF := zI h.g;have HINS := zI h.ins;have HROOM := zI h.room
 have hA : AIn (fun b => b < w.heap.size) A := fun a e => by
  obtain ⟨b, off, e', hb, _⟩ := hl.get (j := 0) (by rw [hl.len]; exact hn.1);rw [e'] at e; cases e; exact hb
 obtain ⟨gt, FT, hX, hT, _, _⟩ := h.ex;have HC := zI (Jmj w hT);have HPT := zI (fun W F' g' (hT' : Jal W F' g' t) (hl' : Smps W A n l) (hA' : AIn (fun b => ¬ F' b) A) => J25 (c := c) W hT' h1 hl' hA' hn hfew hg hev);have hlp : (t.put l).tabs.length = t.tabs.length := t.put_len l;have HND' := zI (fun W F' g' (hT' : Jal W F' g' (t.put l)) => Jrv W hT' (by rw [hlp]; exact h1) hf);have hbd := Jgy hf (t.put l).tabs.length (Nat.le_refl _);have HAD := zI (fun W => Jrw (t.put l).need W ⟨hbd.1, by have := hbd.2; rw [hlp] at this; unfold Tv.need; rw [hlp]; omega⟩);have HL := zI hl;have HA := zI hA;have HX := zI hX;have s1 := hX.at_ 1 (v := .pointer (some ⟨gt, 0, none⟩)) rfl;have d1 : decide ((room : Int) < (t.put l).need) = false := decide_eq_false (by omega);have d2 : ¬ ((room : Int) < (t.put l).need) := by omega
 clear h hX hT hf hbd hl hA hfew hg hev hlp hneed hn;generalize t.put l = t2 at *;go_enter Tryz.func22, Tryz.ntmps22;go_wp2_with fail
 refine HNO.out.mono ?_;rintro e w0 ⟨rfl, hw⟩;subst hw;go_wp2_with fail
 refine HC.out.mono ?_;rintro e w1 ⟨g', rfl, hT1, hb1⟩;have HPU := zI (HPT.out w1 _ g' hT1 (HL.out.below hb1) (fun a e hm => by have := HA.out a e; have := hm.1; omega));have HB1 := zI hb1;have HG1 := zI hT1.g;clear hT1 hb1;go_wp2_with fail
 refine HPU.out.mono ?_;rintro e w2 ⟨rfl, hT2, hC2⟩;have HB2 := zI (Chg.made HB1.out hC2);have HX2 := zI (HX.out.below HB2.out);have HND := zI (HND'.out w2.drew _ g' (hT2.below (Below.refl _ _).drew));have HT2 := zI hT2;clear hT2 hC2 s1;go_upto_region 7 with fail
 refine wp_region_held_drew (S := (fun w' => w'.cell? ⟨g, 0, none⟩ = some (.int .i64 (room : Int)) /\ w'.cell? ⟨g, 2, none⟩ = some (.pointer none) /\ Below w2.heap.size w2 w')) (by kernel_rfl) ?_ (fun hHeld => ?_)
 · exact ⟨HX2.out.drew.at_ 0 rfl, HX2.out.drew.at_ 2 rfl, (Below.refl _ _).drew⟩
 refine wpAnyH_take (i := 0) (oi := _) (v := ?_) rfl (by kernel_rfl) (by kernel_rfl) (by kernel_rfl) (fun _ _ _ h => h) (Or.inl ⟨by rfl, ?y0⟩) (by assumption) ?_
 case y0 => intro w hSw; (try dsimp only at hSw); (go_simp <;> with_reducible rfl)
 try simp only [List.getElem_toArray, List.getElem_cons_succ, List.getElem_cons_zero, Act.put, List.setIfInBounds_toArray, List.set_cons_zero, List.set_cons_succ]
 refine wpAnyH_take (i := 2) (oi := _) (v := ?_) rfl (by kernel_rfl) (by kernel_rfl) (by kernel_rfl) (fun _ _ _ h => h) (Or.inl ⟨by rfl, ?y2⟩) (by assumption) ?_
 case y2 => intro w hSw; (try dsimp only at hSw); (go_simp <;> with_reducible rfl)
 try simp only [List.getElem_toArray, List.getElem_cons_succ, List.getElem_cons_zero, Act.put, List.setIfInBounds_toArray, List.set_cons_zero, List.set_cons_succ]
 refine wpAnyH_take (i := 3) (oi := _) (v := ?_) rfl (by kernel_rfl) (by kernel_rfl) (by kernel_rfl) (fun _ _ _ h => h) (Or.inl ⟨by rfl, ?y3⟩) (by assumption) ?_
 case y3 => intro w hSw; (try dsimp only at hSw); (go_simp <;> with_reducible rfl)
 try simp only [List.getElem_toArray, List.getElem_cons_succ, List.getElem_cons_zero, Act.put, List.setIfInBounds_toArray, List.set_cons_zero, List.set_cons_succ]
 refine wpAnyH_take (i := 4) (oi := _) (v := ?_) rfl (by kernel_rfl) (by kernel_rfl) (by kernel_rfl) (fun _ _ _ h => h) (Or.inl ⟨by rfl, ?y4⟩) (by assumption) ?_
 case y4 => intro w hSw; (try dsimp only at hSw); (go_simp <;> with_reducible rfl)
 try simp only [List.getElem_toArray, List.getElem_cons_succ, List.getElem_cons_zero, Act.put, List.setIfInBounds_toArray, List.set_cons_zero, List.set_cons_succ]
 refine wpAnyH_take (i := 5) (oi := _) (v := ?_) rfl (by kernel_rfl) (by kernel_rfl) (by kernel_rfl) (fun _ _ _ h => h) (Or.inl ⟨by rfl, ?y5⟩) (by assumption) ?_
 case y5 => intro w hSw; (try dsimp only at hSw); (go_simp <;> with_reducible rfl)
 try simp only [List.getElem_toArray, List.getElem_cons_succ, List.getElem_cons_zero, Act.put, List.setIfInBounds_toArray, List.set_cons_zero, List.set_cons_succ]
 refine wpAnyH_take (i := 8) (oi := _) (v := ?_) rfl (by kernel_rfl) (by kernel_rfl) (by kernel_rfl) (fun _ _ _ h => h) (Or.inl ⟨by rfl, ?y8⟩) (by assumption) ?_
 case y8 => intro w hSw; (try dsimp only at hSw); (go_simp <;> with_reducible rfl)
 try simp only [List.getElem_toArray, List.getElem_cons_succ, List.getElem_cons_zero, Act.put, List.setIfInBounds_toArray, List.set_cons_zero, List.set_cons_succ]
 refine wpAnyH_take (i := 9) (oi := _) (v := ?_) rfl (by kernel_rfl) (by kernel_rfl) (by kernel_rfl) (fun _ _ _ h => h) (Or.inl ⟨by rfl, ?y9⟩) (by assumption) ?_
 case y9 => intro w hSw; (try dsimp only at hSw); (go_simp <;> with_reducible rfl)
 try simp only [List.getElem_toArray, List.getElem_cons_succ, List.getElem_cons_zero, Act.put, List.setIfInBounds_toArray, List.set_cons_zero, List.set_cons_succ]
 refine wpAnyH_take (i := 10) (oi := _) (v := ?_) rfl (by kernel_rfl) (by kernel_rfl) (by kernel_rfl) (fun _ _ _ h => h) (Or.inl ⟨by rfl, ?y10⟩) (by assumption) ?_
 case y10 => intro w hSw; (try dsimp only at hSw); (go_simp <;> with_reducible rfl)
 try simp only [List.getElem_toArray, List.getElem_cons_succ, List.getElem_cons_zero, Act.put, List.setIfInBounds_toArray, List.set_cons_zero, List.set_cons_succ]
 refine wpAnyH_take (i := 11) (oi := _) (v := ?_) rfl (by kernel_rfl) (by kernel_rfl) (by kernel_rfl) (fun _ _ _ h => h) (Or.inl ⟨by rfl, ?y11⟩) (by assumption) ?_
 case y11 => intro w hSw; (try dsimp only at hSw); (go_simp <;> with_reducible rfl)
 try simp only [List.getElem_toArray, List.getElem_cons_succ, List.getElem_cons_zero, Act.put, List.setIfInBounds_toArray, List.set_cons_zero, List.set_cons_succ]
 refine wpAnyH_take (i := 12) (oi := _) (v := ?_) rfl (by kernel_rfl) (by kernel_rfl) (by kernel_rfl) (fun _ _ _ h => h) (Or.inl ⟨by rfl, ?y12⟩) (by assumption) ?_
 case y12 => intro w hSw; (try dsimp only at hSw); (go_simp <;> with_reducible rfl)
 try simp only [List.getElem_toArray, List.getElem_cons_succ, List.getElem_cons_zero, Act.put, List.setIfInBounds_toArray, List.set_cons_zero, List.set_cons_succ]
 refine wpAnyH_ready (rs := [1]) (by kernel_rfl) (by simp) (AllReadyH.cons (o := _) rfl (fun K hK => ?_) AllReadyH.nil);go_simp
 go_at_call 48
 refine HND.out.mono ?_;rintro e w3 ⟨rfl, hb3⟩;refine hK.out _ _ ?_ (fun hHeld => ?_)
 · (have hS := (Below.refl w2.heap.size w2).drew.trans hb3; exact ⟨(HX2.out.below hS).at_ 0 rfl, (HX2.out.below hS).at_ 2 rfl, hS⟩)
 clear hK K
 try simp only [List.getElem_toArray, List.getElem_cons_succ, List.getElem_cons_zero, Act.put, List.setIfInBounds_toArray, List.set_cons_zero, List.set_cons_succ]
 refine wpAnyH_ready (rs := [6]) (by kernel_rfl) (by simp) (AllReadyH.cons (o := _) rfl (fun K hK => ?_) AllReadyH.nil);go_simp
 go_at_call 49
 refine (Jkw _).mono ?_;rintro e w4 ⟨rfl, rfl⟩;refine hK.out _ _ ?_ (fun hHeld => ?_)
 · exact hHeld
 clear hK K
 try simp only [List.getElem_toArray, List.getElem_cons_succ, List.getElem_cons_zero, Act.put, List.setIfInBounds_toArray, List.set_cons_zero, List.set_cons_succ]
 refine wpAnyH_ready (rs := [7]) (by kernel_rfl) (by simp) (AllReadyH.cons (o := _) rfl (fun K hK => ?_) AllReadyH.nil);go_simp
 go_at_call 47
 refine (HAD.out _).mono ?_;rintro e w5 ⟨rfl, rfl⟩;refine hK.out _ _ ?_ (fun hHeld => ?_)
 · exact hHeld
 clear hK K
 try simp only [List.getElem_toArray, List.getElem_cons_succ, List.getElem_cons_zero, Act.put, List.setIfInBounds_toArray, List.set_cons_zero, List.set_cons_succ]
 refine wpAnyH_take (i := 13) (oi := _) (v := ?_) rfl (by kernel_rfl) (by kernel_rfl) (by kernel_rfl) (fun _ _ _ h => h) (Or.inl ⟨by rfl, ?y13⟩) (by assumption) ?_
 case y13 => intro w hSw; (try dsimp only at hSw); (go_simp <;> with_reducible rfl)
 try simp only [List.getElem_toArray, List.getElem_cons_succ, List.getElem_cons_zero, Act.put, List.setIfInBounds_toArray, List.set_cons_zero, List.set_cons_succ]
 refine wpAnyH_take (i := 14) (oi := _) (v := ?_) rfl (by kernel_rfl) (by kernel_rfl) (by kernel_rfl) (fun _ _ _ h => h) (Or.inl ⟨by rfl, ?y14⟩) (by assumption) ?_
 case y14 => intro w hSw; (try dsimp only at hSw); (go_simp <;> with_reducible rfl)
 try simp only [List.getElem_toArray, List.getElem_cons_succ, List.getElem_cons_zero, Act.put, List.setIfInBounds_toArray, List.set_cons_zero, List.set_cons_succ]
 refine wpAnyH_take (i := 15) (oi := _) (v := ?_) rfl (by kernel_rfl) (by kernel_rfl) (by kernel_rfl) (fun _ _ _ h => h) (Or.inl ⟨by rfl, ?y15⟩) (by assumption) ?_
 case y15 => intro w hSw; (try dsimp only at hSw); (go_simp <;> with_reducible rfl)
 try simp only [List.getElem_toArray, List.getElem_cons_succ, List.getElem_cons_zero, Act.put, List.setIfInBounds_toArray, List.set_cons_zero, List.set_cons_succ]
 refine wpAnyH_take (i := 16) (oi := _) (v := ?_) rfl (by kernel_rfl) (by kernel_rfl) (by kernel_rfl) (fun _ _ _ h => h) (Or.inl ⟨by rfl, ?y16⟩) (by assumption) ?_
 case y16 => intro w hSw; (try dsimp only at hSw); (go_simp <;> with_reducible rfl)
 try simp only [List.getElem_toArray, List.getElem_cons_succ, List.getElem_cons_zero, Act.put, List.setIfInBounds_toArray, List.set_cons_zero, List.set_cons_succ]
 refine wpAnyH_take (i := 17) (oi := _) (v := ?_) rfl (by kernel_rfl) (by kernel_rfl) (by kernel_rfl) (fun _ _ _ h => h) (Or.inl ⟨by rfl, ?y17⟩) (by assumption) ?_
 case y17 => intro w hSw; (try dsimp only at hSw); (go_simp <;> with_reducible rfl)
 try simp only [List.getElem_toArray, List.getElem_cons_succ, List.getElem_cons_zero, Act.put, List.setIfInBounds_toArray, List.set_cons_zero, List.set_cons_succ]
 refine wpAnyH_take (i := 18) (oi := _) (v := ?_) rfl (by kernel_rfl) (by kernel_rfl) (by kernel_rfl) (fun _ _ _ h => h) (Or.inl ⟨by rfl, ?y18⟩) (by assumption) ?_
 case y18 => intro w hSw; (try dsimp only at hSw); (go_simp <;> with_reducible rfl)
 try simp only [List.getElem_toArray, List.getElem_cons_succ, List.getElem_cons_zero, Act.put, List.setIfInBounds_toArray, List.set_cons_zero, List.set_cons_succ]
 refine wpAnyH_take (i := 19) (oi := _) (v := ?_) rfl (by kernel_rfl) (by kernel_rfl) (by kernel_rfl) (fun _ _ _ h => h) (Or.inl ⟨by rfl, ?y19⟩) (by assumption) ?_
 case y19 => intro w hSw; (try dsimp only at hSw); (go_simp <;> with_reducible rfl)
 try simp only [List.getElem_toArray, List.getElem_cons_succ, List.getElem_cons_zero, Act.put, List.setIfInBounds_toArray, List.set_cons_zero, List.set_cons_succ]
 refine wpAnyH_take (i := 20) (oi := _) (v := ?_) rfl (by kernel_rfl) (by kernel_rfl) (by kernel_rfl) (fun _ _ _ h => h) (Or.inl ⟨by rfl, ?y20⟩) (by assumption) ?_
 case y20 => intro w hSw; (try dsimp only at hSw); (go_simp <;> with_reducible rfl)
 try simp only [List.getElem_toArray, List.getElem_cons_succ, List.getElem_cons_zero, Act.put, List.setIfInBounds_toArray, List.set_cons_zero, List.set_cons_succ]
 refine wpAnyH_take (i := 21) (oi := _) (v := undef) rfl (by kernel_rfl) (by kernel_rfl) (by kernel_rfl) (fun _ _ _ h => h) (Or.inr ⟨by rfl, rfl⟩) (by assumption) ?_
 try simp only [List.getElem_toArray, List.getElem_cons_succ, List.getElem_cons_zero, Act.put, List.setIfInBounds_toArray, List.set_cons_zero, List.set_cons_succ]
 refine wpAnyH_take (i := 22) (oi := _) (v := undef) rfl (by kernel_rfl) (by kernel_rfl) (by kernel_rfl) (fun _ _ _ h => h) (Or.inr ⟨by rfl, rfl⟩) (by assumption) ?_
 try simp only [List.getElem_toArray, List.getElem_cons_succ, List.getElem_cons_zero, Act.put, List.setIfInBounds_toArray, List.set_cons_zero, List.set_cons_succ]
 refine wpAnyH_take (i := 23) (oi := _) (v := undef) rfl (by kernel_rfl) (by kernel_rfl) (by kernel_rfl) (fun _ _ _ h => h) (Or.inr ⟨by rfl, rfl⟩) (by assumption) ?_
 try simp only [List.getElem_toArray, List.getElem_cons_succ, List.getElem_cons_zero, Act.put, List.setIfInBounds_toArray, List.set_cons_zero, List.set_cons_succ]
 refine wpAnyH_take (i := 24) (oi := _) (v := undef) rfl (by kernel_rfl) (by kernel_rfl) (by kernel_rfl) (fun _ _ _ h => h) (Or.inr ⟨by rfl, rfl⟩) (by assumption) ?_
 try simp only [List.getElem_toArray, List.getElem_cons_succ, List.getElem_cons_zero, Act.put, List.setIfInBounds_toArray, List.set_cons_zero, List.set_cons_succ]
 refine wpAnyH_take (i := 25) (oi := _) (v := undef) rfl (by kernel_rfl) (by kernel_rfl) (by kernel_rfl) (fun _ _ _ h => h) (Or.inr ⟨by rfl, rfl⟩) (by assumption) ?_
 try simp only [List.getElem_toArray, List.getElem_cons_succ, List.getElem_cons_zero, Act.put, List.setIfInBounds_toArray, List.set_cons_zero, List.set_cons_succ]
 refine wpAnyH_take (i := 26) (oi := _) (v := undef) rfl (by kernel_rfl) (by kernel_rfl) (by kernel_rfl) (fun _ _ _ h => h) (Or.inr ⟨by rfl, rfl⟩) (by assumption) ?_
 try simp only [List.getElem_toArray, List.getElem_cons_succ, List.getElem_cons_zero, Act.put, List.setIfInBounds_toArray, List.set_cons_zero, List.set_cons_succ]
 refine wpAnyH_take (i := 27) (oi := _) (v := undef) rfl (by kernel_rfl) (by kernel_rfl) (by kernel_rfl) (fun _ _ _ h => h) (Or.inr ⟨by rfl, rfl⟩) (by assumption) ?_
 try simp only [List.getElem_toArray, List.getElem_cons_succ, List.getElem_cons_zero, Act.put, List.setIfInBounds_toArray, List.set_cons_zero, List.set_cons_succ]
 refine wpAnyH_take (i := 28) (oi := _) (v := ?_) rfl (by kernel_rfl) (by kernel_rfl) (by kernel_rfl) (fun _ _ _ h => h) (Or.inl ⟨by rfl, ?y28⟩) (by assumption) ?_
 case y28 => intro w hSw; (try dsimp only at hSw); (go_simp <;> with_reducible rfl)
 try simp only [List.getElem_toArray, List.getElem_cons_succ, List.getElem_cons_zero, Act.put, List.setIfInBounds_toArray, List.set_cons_zero, List.set_cons_succ]
 refine wpAnyH_take (i := 29) (oi := _) (v := ?_) rfl (by kernel_rfl) (by kernel_rfl) (by kernel_rfl) (fun _ _ _ h => h) (Or.inl ⟨by rfl, ?y29⟩) (by assumption) ?_
 case y29 => intro w hSw; (try dsimp only at hSw); (go_simp <;> with_reducible rfl)
 try simp only [List.getElem_toArray, List.getElem_cons_succ, List.getElem_cons_zero, Act.put, List.setIfInBounds_toArray, List.set_cons_zero, List.set_cons_succ]
 refine wpAnyH_done (by kernel_rfl) ?_ _;have hS : Below w2.heap.size w2 w3 := hHeld.2.2;have HX3 := zI (HX2.out.below hS);have HT3 := zI (HT2.out.below hS);have HB3 := zI (HB2.out.trans (hS.mono HB2.out.size));have x1 := HX3.out.at_ 1 (v := .pointer (some ⟨gt, 0, none⟩)) rfl;have f1 := HX3.out.free 1;clear hS hHeld hb3;go_wp2_with fail
 refine (Jv3 _ _ _).mono ?_;rintro e w6 ⟨rfl, rfl⟩;go_wp2_with fail
 go_ret;have hgw := HINS.out _ HGF.out;have hs3 := HB3.out.size;have hCs : Chg (fun b => b = g) w3 (w3.setCell ⟨g, 1, none⟩ (.pointer (some ⟨g', 0, none⟩))) := Chg.set w3 _ _ rfl;have hss := hCs.size;have hnot : ¬ made w w1 g := fun hh => by have := hh.1; omega
 have hT4 := HT3.out.chg hCs (fun b hb e => by rw [e] at hb; exact hnot hb);refine ⟨rfl, ⟨⟨g', made w w1, HX3.out.set 1 _, hT4, hnot, fun b hb => .inr ⟨hb.1, Nat.lt_of_lt_of_le (HT3.out.ins b hb) hss⟩⟩, .inl HGF.out, Ins.grow HINS.out (Nat.le_trans hs3 hss), HROOM.out⟩, ?_⟩;exact (Chg.of_below HB3.out).trans hCs (fun b e => .inl (by rw [e]; exact HGF.out))
theorem Jwq (p : Value) (w : World) : Calls Tryz.prog 141 #[p, .pointer none] w fun e w' => e = .returned (.int .i64 0) /\ w = w' := by
 go_enter Tryz.func141, Tryz.ntmps141;go_wp2;go_ret;exact ⟨rfl, rfl⟩
theorem Jwr {F : Nat -> Prop} {g room : Nat} {t : Tv} (w : World) (hr : room <= 4096) (h : Jal w F g t) (h1 : 1 <= t.tabs.length) (hf : t.Few) (hneed : t.need <= (room : Int)) :
  Calls Tryz.prog 73 #[.int .i64 (room : Int), .pointer (some ⟨g, 0, none⟩), .pointer none] w fun e w' => ∃ g', e = .returned (.tuple #[.pointer (some ⟨g', 0, none⟩), .int .i64 0]) /\ StAt w' (made w w') g' room t /\ Below w.heap.size w w' := by
 have HC := zI (Jmj w h);have HRI := zI (Jkv (room : Int) w (by omega));have HND' := zI (fun W F' g' (hS : StAt W F' g' room t) => Jwp W hS h1 hf h.few);have d1 : decide ((room : Int) < t.need) = false := decide_eq_false (by omega);have d2 : ¬ ((room : Int) < t.need) := by omega
 clear h hf h1 hneed;go_enter Tryz.func73, Tryz.ntmps73
 go_wp2_with (first
  | (go_at_call 24; refine HRI.out.mono ?_; rintro e w1 ⟨rfl, hw⟩; subst hw)
  | (go_at_call 141; refine (Jwq _ _).mono ?_; rintro e w1 ⟨rfl, hw⟩; subst hw))
 refine HC.out.mono ?_;rintro e w1 ⟨gt, rfl, hT1, hb1⟩;have hb4 := (Below.refl w1.heap.size w1).alloc (Nat.le_refl _) (.cells #[.int .i64 (room : Int), .pointer (some ⟨gt, 0, none⟩), .pointer none] 73);have HB4 := zI (hb1.trans (hb4.mono hb1.size));have HST := zI (StAt.boxed (room := room) hT1 hb1.size hr);have HND := zI (HND'.out _ _ _ HST.out);clear hT1 hb1 hb4
 go_wp2_with (first
  | (go_at_call 142; refine (Joe _).mono ?_; rintro e w2 ⟨rfl, hw⟩; subst hw)
  | (go_at_call 143; refine HND.out.mono ?_; rintro e w3 ⟨rfl, hb3⟩; have HB3 := zI hb3; clear hb3))
 go_ret2;have h4 := HB4.out.size;have h3 := HB3.out.size;exact ⟨w1.heap.size, rfl, (HST.out.below HB3.out).sub (fun b hb => ⟨hb.1, Nat.lt_of_lt_of_le hb.2 h3⟩) Ins.made, HB4.out.trans (HB3.out.mono h4)⟩
abbrev Jax (g i : Nat) (now : Int) (nm : ByteArray) (A : Option Addr) (n c : Nat) (B : Option Addr) (c2 : Nat) (E : Option Addr) (en ec : Nat) : Array Value :=
 #[.int .u64 (g : Int), .int .u64 (i : Int), .int .i64 now, .string nm, .slice A n c, .slice B n c2, .string ByteArray.empty, .slice none 0 0, .slice none 0 0, .int .i64 0, .int .i64 0, .slice E en ec]
theorem Jbd {w : World} {b g i : Nat} {now : Int} {nm : ByteArray} {A : Option Addr} {n c : Nat} {B : Option Addr} {c2 : Nat} {E : Option Addr} {en ec : Nat} (h : Bx w b 88 (Jax g i now nm A n c B c2 E en ec)) :
  w.cell? ⟨b, 0, none⟩ = some (.int .u64 (g : Int)) /\ w.cell? ⟨b, 1, none⟩ = some (.int .u64 (i : Int)) /\ w.cell? ⟨b, 2, none⟩ = some (.int .i64 now) /\ w.cell? ⟨b, 3, none⟩ = some (.string nm) /\ w.cell? ⟨b, 4, none⟩ = some (.slice A n c) /\ w.cell? ⟨b, 5, none⟩ = some (.slice B n c2) /\
   w.cell? ⟨b, 6, none⟩ = some (.string ByteArray.empty) /\ w.cell? ⟨b, 7, none⟩ = some (.slice none 0 0) /\ w.cell? ⟨b, 8, none⟩ = some (.slice none 0 0) /\ w.cell? ⟨b, 9, none⟩ = some (.int .i64 0) /\ w.cell? ⟨b, 10, none⟩ = some (.int .i64 0) /\ w.cell? ⟨b, 11, none⟩ = some (.slice E en ec) :=
 ⟨h.at_ 0 rfl, h.at_ 1 rfl, h.at_ 2 rfl, h.at_ 3 rfl, h.at_ 4 rfl, h.at_ 5 rfl, h.at_ 6 rfl, h.at_ 7 rfl, h.at_ 8 rfl, h.at_ 9 rfl, h.at_ 10 rfl, h.at_ 11 rfl⟩
theorem Jc5 (n m : Int) (w : World) (h : 0 <= n /\ n <= m) : Calls Tryz.prog 277 #[.int .i64 n, .int .i64 m] w fun e w' => e = .returned (.bool true) /\ w = w' := by
 have d1 : decide ((0 : Int) <= n) = true := decide_eq_true h.1;have d2 : decide (n <= m) = true := decide_eq_true h.2;go_enter Tryz.func277, Tryz.ntmps277;go_wp2;go_ret;exact ⟨rfl, rfl⟩
theorem Jws (nm : ByteArray) (A : Option Addr) (n c : Nat) (ts : List Ti) (w : World) (hnm : nm.size <= maxLen) (h : Tis w A n ts) (hc : n <= c) (hck : Py.checkR nm.toList ts = (0, 0)) :
  Calls Tryz.prog 278 #[polV nm A n c] w fun e w' => e = .returned (.bool true) /\ Below w.heap.size w w' := by
 have hb0 : Below w.heap.size w (w.alloc (.cells #[.string nm, .slice A n c] 63)) := (Below.refl _ w).alloc (Nat.le_refl _) _;have HK := zI (Py.check_any nm A n c ts _ hnm (h.below hb0) hc);rw [hck] at HK;have HB0 := zI hb0;clear h hb0 hck;go_enter Tryz.func278, Tryz.ntmps278;go_wp2_with fail
 refine HK.out.mono ?_;rintro e w1 ⟨rfl, hb1⟩;have HB1 := zI (HB0.out.trans (hb1.mono HB0.out.size));clear hb1;go_wp2_with fail
 go_ret;exact ⟨rfl, HB1.out⟩
section
variable (g i : Nat) (now : Int) (nm : ByteArray) (A : Option Addr) (n c : Nat) (B : Option Addr) (c2 : Nat) (E : Option Addr) (en ec : Nat)
theorem Jr7 (w : World) : Calls Tryz.prog 204 #[.agg (Jax g i now nm A n c B c2 E en ec)] w fun e w' => e = .returned (.bool false) /\ Below w.heap.size w w' := by
 have hb0 : Below w.heap.size w (w.alloc (.cells (Jax g i now nm A n c B c2 E en ec) 88)) := (Below.refl _ w).alloc (Nat.le_refl _) _;have HB0 := zI hb0;clear hb0;go_enter Tryz.func204, Tryz.ntmps204;go_wp2_with fail
 go_ret;exact ⟨rfl, HB0.out⟩
theorem Jt3 (w : World) : Calls Tryz.prog 245 #[.agg (Jax g i now nm A n c B c2 E en ec)] w fun e w' => e = .returned (.bool true) /\ Below w.heap.size w w' := by
 have hb0 : Below w.heap.size w (w.alloc (.cells (Jax g i now nm A n c B c2 E en ec) 88)) := (Below.refl _ w).alloc (Nat.le_refl _) _;have b0 := Bx.new w 88 (Jax g i now nm A n c B c2 E en ec);have HB0 := zI hb0;have HX0 := zI b0;clear hb0 b0;go_enter Tryz.func245, Tryz.ntmps245;go_wp2_with fail
 refine (Jr7 g i now nm A n c B c2 E en ec _).mono ?_;rintro e w1 ⟨rfl, hb1⟩;have HX1 := zI (HX0.out.below hb1);have HB1 := zI (HB0.out.trans (hb1.mono HB0.out.size));have x6 := HX1.out.at_ 8 (v := .slice none 0 0) rfl;have x7 := HX1.out.at_ 9 (v := .int .i64 0) rfl;have x8 := HX1.out.at_ 10 (v := .int .i64 0) rfl;clear hb1;go_wp2_with fail
 go_ret;exact ⟨rfl, HB1.out⟩
theorem Jwt (ts : List Ti) (fl : List Int) (w : World) (hg : 1 <= g) (hnow : 0 <= now /\ now <= 1099511627776) (hnm : nm.size <= maxLen) (h : Tis w A n ts) (hc : n <= c) (hck : Py.checkR nm.toList ts = (0, 0)) (hB : Ints w .i64 B n fl) (hfl : ∀ f ∈ fl, 0 <= f /\ f <= 4611686018427387904) :
  Calls Tryz.prog 244 #[.agg (Jax g i now nm A n c B c2 E en ec)] w fun e w' => e = .returned (.bool true) /\ Below w.heap.size w w' := by
 have hb0 : Below w.heap.size w (w.alloc (.cells (Jax g i now nm A n c B c2 E en ec) 88)) := (Below.refl _ w).alloc (Nat.le_refl _) _;have b0 := Bx.new w 88 (Jax g i now nm A n c B c2 E en ec);have HTK := zI (Jws nm A n c ts _ hnm (h.below hb0) hc hck);have HFB := zI (hB.below hb0);have HFL := zI hfl;have HLN := zI hB.len;have HWI := zI (Jc5 now 1099511627776);have hnl := h.n_le;unfold maxLen at hnl;have d0 : ((g : Int) == 0) = false := by rw [beq_eq_false_iff_ne]; omega
 have HX0 := zI b0;have HB0 := zI hb0;clear b0 hb0 h hB hck hfl;go_enter Tryz.func244, Tryz.ntmps244;go_wp2_with fail
 refine (HWI.out _ hnow).mono ?_;rintro e w1 ⟨rfl, hw⟩;subst hw;go_wp2_with fail
 refine HTK.out.mono ?_;rintro e w1 ⟨rfl, hb1⟩;have HX1 := zI (HX0.out.below hb1);have HF1 := zI (HFB.out.below hb1);have HB1 := zI (HB0.out.trans (hb1.mono HB0.out.size));have x4 := HX1.out.at_ 4 (v := .slice A n c) rfl;have x5 := HX1.out.at_ 5 (v := .slice B n c2) rfl;clear hb1;go_wp2_with fail
 obtain ⟨wo, hwo⟩ : ∃ wo : World, wo = w1 := ⟨_, rfl⟩;rw [<- hwo] at HX1 HF1 HB1 ⊢;clear x4 x5 hwo;go_loopw [33] (fun j wr => ∃ k : Nat, k <= n /\ j = .int .i64 (k : Int) /\ wo = wr) (fun j _ => n - (intOf j).toNat)
 case atStart => exact ⟨0, Nat.zero_le _, rfl, rfl⟩
 case round =>
  obtain ⟨k, hk, rfl, hw⟩ := hrel;subst hw;by_cases hlt : k < n
  · have K : k < fl.length := by rw [HLN.out]; exact hlt
    obtain ⟨b, off, rfl, hbl, hcl⟩ := HF1.out.get K;have HWF := zI (Jc5 fl[k] 4611686018427387904 wo (HFL.out _ (List.getElem_mem K)));generalize fl[k]'K = f at *;go_wp2_with fail
    refine HWF.out.mono ?_;rintro e w2 ⟨rfl, hw⟩;subst hw;go_wp2_with fail
    go_roundw
    case rel => exact ⟨k + 1, by omega, by go_num, trivial⟩
    case measure => simp [intOf]; omega
  · have hke : k = n := by omega
    go_wp2_with fail
    go_ret;exact ⟨rfl, HB1.out⟩
end
structure En where
 id : Nat
 tier : Nat
 shard : Nat
 bl : List Int
structure Em where
 e : En
 A : Option Addr
 c : Nat
def Em.cells (x : Em) : List Value := [.int .u64 (x.e.id : Int), .int .i64 (x.e.tier : Int), .int .i64 (x.e.shard : Int), .int .i64 0, .int .i64 (x.e.bl.length : Int), .slice x.A x.e.bl.length x.c]
structure En.Ok (x : En) (id : Nat) : Prop where
 id : 1 <= x.id /\ x.id <= id
 tier : x.tier <= 9
 shard : x.shard <= 7
 len : 1 <= x.bl.length /\ x.bl.length <= 4096
 bl : ∀ b ∈ x.bl, 0 <= b /\ b <= 4095
structure Jg9 (w : World) (F : Nat -> Prop) (A : Option Addr) (n : Nat) (ms : List Em) : Prop where
 sl : Sl w A (ms.flatMap Em.cells)
 len : ms.length = n
 row : ∀ m ∈ ms, Ints w .i64 m.A m.e.bl.length m.e.bl /\ AIn F m.A
 inl : AIn F A
structure J3p (w : World) (b off : Nat) (x : Em) : Prop where
 c0 : w.cell? ⟨b, off, none⟩ = some (.int .u64 (x.e.id : Int))
 c1 : w.cell? ⟨b, off + 1, none⟩ = some (.int .i64 (x.e.tier : Int))
 c2 : w.cell? ⟨b, off + 2, none⟩ = some (.int .i64 (x.e.shard : Int))
 c3 : w.cell? ⟨b, off + 3, none⟩ = some (.int .i64 0)
 c4 : w.cell? ⟨b, off + 4, none⟩ = some (.int .i64 (x.e.bl.length : Int))
 c5 : w.cell? ⟨b, off + 5, none⟩ = some (.slice x.A x.e.bl.length x.c)
theorem Jox (x : Em) : x.cells.length = 6 := rfl
theorem Jwu (l : List Em) (j : Nat) (hj : j < l.length) (q : Nat) (hq : q < 6) : (l.flatMap Em.cells)[j * 6 + q]? = l[j].cells[q]? := by
 induction l generalizing j with
 | nil => simp at hj
 | cons r s ih =>
   rw [List.flatMap_cons];cases j with
   | zero =>
     rw [List.getElem?_append_left (by rw [Jox]; omega)]
     simp
   | succ j =>
     rw [List.getElem?_append_right (by rw [Jox]; omega), Jox, show (j + 1) * 6 + q - 6 = j * 6 + q from by omega, ih j (by simpa using hj)];rfl
theorem Jwv (l : List Em) : (l.flatMap Em.cells).length = l.length * 6 := by
 induction l with
 | nil => rfl
 | cons a r ih => rw [List.flatMap_cons, List.length_append, ih, Jox, List.length_cons]; omega
theorem Jww (l : List Em) : ∀ u ∈ l.flatMap Em.cells, u.oneCell' = true := by
 intro u hu;obtain ⟨r, _, hr⟩ := List.mem_flatMap.1 hu;simp [Em.cells] at hr;rcases hr with rfl | rfl | rfl | rfl | rfl | rfl <;> rfl
section
variable {w w' : World} {F G : Nat -> Prop} {A : Option Addr} {n : Nat} {ms : List Em}
theorem Jg9.get (h : Jg9 w F A n ms) {j : Nat} (hj : j < ms.length) : ∃ b off, A = some ⟨b, off, none⟩ /\ b < w.heap.size /\ J3p w b (off + j * 6) ms[j] := by
 have hne : ms.flatMap Em.cells ≠ [] := by
  intro e;have := Jwv ms;rw [e] at this;simp only [List.length_nil] at this;omega
 obtain ⟨b, off, e, hb, hc⟩ := h.sl.at_ hne;refine ⟨b, off, e, hb, ?_⟩
 have X : ∀ q (hq : q < 6), w.cell? ⟨b, off + j * 6 + q, none⟩ = ms[j].cells[q]? := fun q hq => by
  have hq' : ms[j].cells[q]? = some (ms[j].cells[q]'(by rw [Jox]; exact hq)) := List.getElem?_eq_getElem _;rw [hq', Nat.add_assoc];exact hc (j * 6 + q) _ (by rw [Jwu ms j hj q hq, hq'])
 exact ⟨X 0 (by omega), X 1 (by omega), X 2 (by omega), X 3 (by omega), X 4 (by omega), X 5 (by omega)⟩
theorem Jg9.chg (h : Jg9 w F A n ms) (hc : Chg G w w') (hd : Dj F G) : Jg9 w' F A n ms :=
 ⟨h.sl.chg hc (h.inl.dj hd), h.len, fun m hm => ⟨(h.row m hm).1.chg hc ((h.row m hm).2.dj hd), (h.row m hm).2⟩, h.inl⟩
theorem Jg9.below (h : Jg9 w F A n ms) (hb : Below w.heap.size w w') : Jg9 w' F A n ms :=
 ⟨h.sl.below hb, h.len, fun m hm => ⟨(h.row m hm).1.below hb, (h.row m hm).2⟩, h.inl⟩
theorem Jg9.sub (h : Jg9 w F A n ms) (hs : ∀ b, F b -> G b) : Jg9 w G A n ms := ⟨h.sl, h.len, fun m hm => ⟨(h.row m hm).1, (h.row m hm).2.sub hs⟩, h.inl.sub hs⟩
end
theorem Jwx (g i : Nat) (now : Int) (nm : ByteArray) (A : Option Addr) (n c : Nat) (B : Option Addr) (c2 : Nat) (E : Option Addr) (en ec : Nat) (x : Em) (w : World) (h : Ints w .i64 x.A x.e.bl.length x.e.bl) (hx : x.e.Ok i) :
  Calls Tryz.prog 246 #[.agg (Jax g i now nm A n c B c2 E en ec), .agg x.cells.toArray] w fun e w' => e = .returned (.bool true) /\ Below w.heap.size w w' := by
 obtain ⟨⟨id, tier, shard, bl⟩, A5, c5⟩ := x;have hid := hx.id;have htr := hx.tier;have hsh := hx.shard;have hln := hx.len;have HBL := zI hx.bl;dsimp only at h hid htr hsh hln HBL;have b0 := Bx.new w 88 (Jax g i now nm A n c B c2 E en ec);have b1 := b0.alloc (.cells #[.int .u64 (id : Int), .int .i64 (tier : Int), .int .i64 (shard : Int), .int .i64 0, .int .i64 (bl.length : Int), .slice A5 bl.length c5] 139);have b2 := Bx.new (w.alloc (.cells (Jax g i now nm A n c B c2 E en ec) 88)) 139 #[.int .u64 (id : Int), .int .i64 (tier : Int), .int .i64 (shard : Int), .int .i64 0, .int .i64 (bl.length : Int), .slice A5 bl.length c5];have hb0 : Below w.heap.size w ((w.alloc (.cells (Jax g i now nm A n c B c2 E en ec) 88)).alloc (.cells #[.int .u64 (id : Int), .int .i64 (tier : Int), .int .i64 (shard : Int), .int .i64 0, .int .i64 (bl.length : Int), .slice A5 bl.length c5] 139)) := ((Below.refl _ w).alloc (Nat.le_refl _) _).alloc (by simp) _;have HI := zI (h.below hb0);have HLB := zI h.len;obtain ⟨k, hk⟩ : ∃ k, k = bl.length := ⟨_, rfl⟩;unfold Em.cells;dsimp only;rw [<- hk] at b1 b2 hb0 HI hln ⊢;have HK := zI hk;have HB0 := zI hb0;have HX1 := zI b1;have HX2 := zI b2;have hbs : (w.alloc (.cells (Jax g i now nm A n c B c2 E en ec) 88)).heap.size = w.heap.size + 1 := by simp
 rw [hbs] at HX2;clear b0 b1 b2 hb0 h hx hk hbs;go_enter Tryz.func246, Tryz.ntmps246;go_wp2_with fail
 generalize hwo : ((w.alloc (.cells (Jax g i now nm A n c B c2 E en ec) 88)).alloc (.cells #[.int .u64 (id : Int), .int .i64 (tier : Int), .int .i64 (shard : Int), .int .i64 0, .int .i64 (k : Int), .slice A5 k c5] 139)) = wo at *;obtain ⟨b1, hb1⟩ : ∃ b, b = w.heap.size := ⟨_, rfl⟩;obtain ⟨b2, hb2⟩ : ∃ b, b = w.heap.size + 1 := ⟨_, rfl⟩;rw [<- hb2, <- hb1];rw [<- hb1] at HX1;rw [<- hb2] at HX2;clear hwo hb1 hb2;go_loopw [11] (fun j wr => ∃ q : Nat, q <= k /\ j = .int .i64 (q : Int) /\ wo = wr) (fun j _ => k - (intOf j).toNat)
 case atStart => exact ⟨0, Nat.zero_le _, rfl, rfl⟩
 case round =>
  obtain ⟨q, hq, rfl, hw⟩ := hrel;subst hw;by_cases hlt : q < k
  · have K : q < bl.length := by rw [<- HK.out]; exact hlt
    obtain ⟨b, off, rfl, hbl, hcl⟩ := HI.out.get K;have HWF := zI (Jc5 bl[q] 4095 wo (HBL.out _ (List.getElem_mem K)));generalize bl[q]'K = f at *;go_wp2_with fail
    refine HWF.out.mono ?_;rintro e w2 ⟨rfl, hw⟩;subst hw;go_wp2_with fail
    go_roundw
    case rel => exact ⟨q + 1, by omega, by go_num, trivial⟩
    case measure => simp [intOf]; omega
  · have hke : q = k := by omega
    subst hke;have HW1 := zI (Jc5 (tier : Int) 9 wo (by omega));have HW2 := zI (Jc5 (shard : Int) 7 wo (by omega));have x0 := HX2.out.at_ 0 (v := .int .u64 (id : Int)) rfl;have x1 := HX2.out.at_ 1 (v := .int .i64 (tier : Int)) rfl;have x2 := HX2.out.at_ 2 (v := .int .i64 (shard : Int)) rfl;have x3 := HX2.out.at_ 3 (v := .int .i64 0) rfl;have x4 := HX2.out.at_ 4 (v := .int .i64 (q : Int)) rfl;have x5 := HX2.out.at_ 5 (v := .slice A5 q c5) rfl;have y1 := HX1.out.at_ 1 (v := .int .u64 (i : Int)) rfl;have e1 : decide ((1 : Int) <= (id : Int)) = true := decide_eq_true (by omega);have e1' : decide (1 <= id) = true := decide_eq_true (by omega);have e2 : decide ((id : Int) <= (i : Int)) = true := decide_eq_true (by omega);have e2' : decide (id <= i) = true := decide_eq_true (by omega);have e3 : decide ((1 : Int) <= (q : Int)) = true := decide_eq_true (by omega);have e3' : decide (1 <= q) = true := decide_eq_true (by omega);have e4 : decide ((q : Int) <= 4096) = true := decide_eq_true (by omega);have e4' : decide (q <= 4096) = true := decide_eq_true (by omega);go_wp2_with (go_at_call 277; refine (Jc5 _ _ _ (by omega)).mono ?_; rintro e w2 ⟨rfl, hw⟩; subst hw)
    go_ret;exact ⟨rfl, HB0.out⟩
end Go.Proofs.YtalkkhafcfhglaaGreatDoor
