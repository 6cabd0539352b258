/-
  seg.Put: a segment's blocks.
-/
import Derived.Test.YtalkkhafcfhglaaGreatDoorQ30
set_option maxRecDepth 100000
set_option maxHeartbeats 4000000
namespace Go.Proofs.YtalkkhafcfhglaaGreatDoor
open Go.RowKit
def sgN (n : Nat) : Nat := (n + 2) / 3
def sgPt (l : List Rc) (p : Nat) : List Rc := (l.drop (3 * p)).take 3
def sgL (id tier shard : Nat) (l : List Rc) : List ByteArray := (List.range (sgN l.length)).map fun p => strOf (sgBk id tier shard p (sgN l.length) (sgPt l p))
theorem Jfi (n : Nat) (w : World) (h : n <= 1000000) : Calls Tryz.prog 154 #[.int .i64 (n : Int)] w fun e w' => e = .returned (.int .i64 (sgN n : Int)) /\ w = w' := by
 by_cases h0 : n < 1
 · have e : n = 0 := by omega
   subst e;go_enter Tryz.func154, Tryz.ntmps154;go_wp2;go_ret;exact ⟨rfl, rfl⟩
 · have hd : decide ((n : Int) < 1) = false := decide_eq_false (by omega)
   have HE := zI (show ((n : Int) - 1) / 3 + 1 = (sgN n : Int) from by unfold sgN; omega);go_enter Tryz.func154, Tryz.ntmps154;go_wp2;go_ret;exact ⟨by rw [<- HE.out]; rfl, rfl⟩
theorem Jm9 (l : List Rc) : (l.flatMap Rc.cells).length = l.length * 7 := by
 induction l with
 | nil => rfl
 | cons a r ih => rw [List.flatMap_cons, List.length_append, ih, List.length_cons]; show 7 + _ = _; omega
theorem Rcs.part {w : World} {b off n : Nat} {l : List Rc} (h : Rcs w (some ⟨b, off, none⟩) n l) (i q : Nat) : Rcs w (some ⟨b, off + i * 7, none⟩) ((l.drop i).take q).length ((l.drop i).take q) := by
 have hm : ∀ r ∈ (l.drop i).take q, r ∈ l := fun r hr => List.mem_of_mem_drop (List.mem_of_mem_take hr);refine ⟨⟨fun hne => ?_⟩, rfl, ?_, fun r hr => h.nm r (hm r hr), fun r hr => h.st r (hm r hr), fun r hr => h.ok r (hm r hr)⟩
 · have hl : i <= l.length := by
    rcases Nat.le_total i l.length with x | x
    · exact x
    · rw [List.drop_eq_nil_of_le x] at hne; simp at hne
   have hne2 : l.flatMap Rc.cells ≠ [] := by
    intro e;have : l.length * 7 = 0 := by rw [<- Jm9, e]; rfl
    have : l = [] := List.eq_nil_of_length_eq_zero (by omega);rw [this] at hne; simp at hne
   obtain ⟨b', off', e, hb, hc⟩ := h.sl.at_ hne2;cases e
   refine ⟨b, off + i * 7, rfl, hb, fun j u hu => ?_⟩;rw [Nat.add_assoc];refine hc _ _ ?_
   have e : l.flatMap Rc.cells = (l.take i).flatMap Rc.cells ++ (((l.drop i).take q).flatMap Rc.cells ++ ((l.drop i).drop q).flatMap Rc.cells) := by
    rw [<- List.flatMap_append, List.take_append_drop, <- List.flatMap_append, List.take_append_drop]
   have hj := (List.getElem?_eq_some_iff.1 hu).1;rw [e, List.getElem?_append_right (by rw [Jm9, List.length_take]; omega), Jm9, List.length_take, Nat.min_eq_left hl, Nat.add_sub_cancel_left, List.getElem?_append_left hj];exact hu
 · have h1 := h.n_le
   have h2 := h.len;rw [List.length_take, List.length_drop];omega
set_option linter.unusedSimpArgs false in
theorem Jo9 (id tier shard : Nat) (A : Option Addr) (n c : Nat) (l : List Rc) (w : World) (h0 : 1 <= id) (h1 : id < 18446744073709551616) (h2 : tier < 10) (h3 : shard < 8) (hr : Rcs w A n l) (hf : ∀ r ∈ l, r.Fine) (ho : l.Pairwise Rc.lt) (hn : n <= 10000) (hc : n <= c) :
  Calls Tryz.prog 136 #[.int .u64 (id : Int), .int .i64 (tier : Int), .int .i64 (shard : Int), .slice A n c] w fun e w' => ∃ v, e = .returned (.tuple #[v, .int .i64 0]) /\ w'.ownsRow w.heap.size 9 1 v (sgN n) ((sgL id tier shard l).map Value.string) /\ Below w.heap.size w w' := by
 have HRI := zI (Jj1 id tier shard w h0 h2 h3);have HLN := zI hr.len;have HR := zI hr;have HVA := zI (fun r (hr : r ∈ l) W => Jo8 r W (hf r hr));have HOR := zI ho;have HFI := zI hf;have HID := zI h1;clear h1 hr hf ho;go_enter Tryz.func136, Tryz.ntmps136;go_wp2_with fail
 refine HRI.out.mono ?_;rintro e w1 ⟨rfl, hw⟩;subst hw;go_wp2_with fail
 go_loopw [24] (fun i wr => ∃ k : Nat, k <= n /\ i = .int .i64 (k : Int) /\ Below w.heap.size w wr) (fun i _ => n - (intOf i).toNat)
 case atStart => exact ⟨0, Nat.zero_le _, rfl, Below.refl _ _⟩
 case round =>
  obtain ⟨k, hk, rfl, hb⟩ := hrel;by_cases hlt : k < n
  · have K : k < l.length := by rw [HLN.out]; exact hlt
    obtain ⟨b, off, rfl, hbl, R⟩ := (HR.out.below hb).get K;have HV := zI (HVA.out l[k] (List.getElem_mem K));have HB := zI hb;have hba := (Below.refl wr.heap.size wr).alloc (Nat.le_refl _) (.cells #[.string l[k].nm, .int .i64 l[k].st, .int .i64 l[k].ag.c, .int .i64 l[k].ag.hi, .int .u64 l[k].ag.lo, .int .i64 l[k].ag.mn, .int .i64 l[k].ag.mx] 169);have HB1 := zI (HB.out.trans (hba.mono HB.out.size));by_cases hk0 : k = 0
    · have HK0 := zI hk0
      have d1 : decide ((0 : Int) < (k : Int)) = false := decide_eq_false (by omega);have d2 : decide (0 < k) = false := decide_eq_false (by omega);generalize l[k]'K = x at *;obtain ⟨r0, r1, r2, r3, r4, r5, r6⟩ := R;clear hb hk0 hba;have X0 := (Jbu.new wr x).keep (Jaa ((Below.refl _ (wr.alloc (.cells #[.string x.nm, .int .i64 x.st, .int .i64 x.ag.c, .int .i64 x.ag.hi, .int .u64 x.ag.lo, .int .i64 x.ag.mn, .int .i64 x.ag.mx] 169))).drew) none) (by simp);have HBD := zI HB1.out.drew;go_upto_region 6 with fail
      refine wp_region_held_drew (S := (fun w' => w'.cell? ⟨wr.heap.size, 0, none⟩ = some (.string x.nm) /\ w'.cell? ⟨wr.heap.size, 1, none⟩ = some (.int .i64 x.st) /\ w'.cell? ⟨wr.heap.size, 2, none⟩ = some (.int .i64 x.ag.c) /\ w'.cell? ⟨wr.heap.size, 3, none⟩ = some (.int .i64 x.ag.hi) /\ w'.cell? ⟨wr.heap.size, 4, none⟩ = some (.int .u64 x.ag.lo) /\ w'.cell? ⟨wr.heap.size, 5, none⟩ = some (.int .i64 x.ag.mn) /\ w'.cell? ⟨wr.heap.size, 6, none⟩ = some (.int .i64 x.ag.mx) /\ Below w.heap.size w w')) (by kernel_rfl) ?_ (fun hHeld => ?_)
      · exact ⟨X0.c0, X0.c1, X0.c2, X0.c3, X0.c4, X0.c5, X0.c6, HBD.out⟩
      refine wpAnyH_take (i := 0) (oi := _) (v := ?_) rfl (by kernel_rfl) (by kernel_rfl) (by kernel_rfl) (fun _ _ _ h => h) (Or.inl ⟨by rfl, ?y0⟩) (by assumption) ?_
      case y0 => intro w hSw; (try dsimp only at hSw); (go_simp <;> with_reducible rfl)
      try simp only [List.getElem_toArray, List.getElem_cons_succ, List.getElem_cons_zero, Act.put, List.setIfInBounds_toArray, List.set_cons_zero, List.set_cons_succ]
      refine wpAnyH_ready (rs := [1]) (by kernel_rfl) (by simp) (AllReadyH.cons (o := _) rfl (fun K hK => ?_) AllReadyH.nil);go_simp
      go_at_call 211
      refine (HV.out _).mono ?_;rintro e w2 ⟨rfl, hb2⟩;refine hK.out _ _ ?_ (fun hHeld => ?_)
      · (obtain ⟨_, _, _, _, _, _, _, hbel⟩ := hHeld; have X2 := (Jbu.mk (w := _) (b := wr.heap.size) (off := 0) (r := x) (by assumption) (by assumption) (by assumption) (by assumption) (by assumption) (by assumption) (by assumption)).keep (Jaa hb2 none) (by simp); exact ⟨X2.c0, X2.c1, X2.c2, X2.c3, X2.c4, X2.c5, X2.c6, hbel.trans (hb2.mono hbel.size)⟩)
      clear hK K
      try simp only [List.getElem_toArray, List.getElem_cons_succ, List.getElem_cons_zero, Act.put, List.setIfInBounds_toArray, List.set_cons_zero, List.set_cons_succ]
      refine wpAnyH_take (i := 2) (oi := _) (v := ?_) rfl (by kernel_rfl) (by kernel_rfl) (by kernel_rfl) (fun _ _ _ h => h) (Or.inl ⟨by rfl, ?y2⟩) (by assumption) ?_
      case y2 => intro w hSw; (try dsimp only at hSw); (go_simp <;> with_reducible rfl)
      try simp only [List.getElem_toArray, List.getElem_cons_succ, List.getElem_cons_zero, Act.put, List.setIfInBounds_toArray, List.set_cons_zero, List.set_cons_succ]
      refine wpAnyH_take (i := 3) (oi := _) (v := ?_) rfl (by kernel_rfl) (by kernel_rfl) (by kernel_rfl) (fun _ _ _ h => h) (Or.inl ⟨by rfl, ?y3⟩) (by assumption) ?_
      case y3 => intro w hSw; (try dsimp only at hSw); (go_simp <;> with_reducible rfl)
      try simp only [List.getElem_toArray, List.getElem_cons_succ, List.getElem_cons_zero, Act.put, List.setIfInBounds_toArray, List.set_cons_zero, List.set_cons_succ]
      refine wpAnyH_take (i := 4) (oi := _) (v := ?_) rfl (by kernel_rfl) (by kernel_rfl) (by kernel_rfl) (fun _ _ _ h => h) (Or.inl ⟨by rfl, ?y4⟩) (by assumption) ?_
      case y4 => intro w hSw; (try dsimp only at hSw); (go_simp <;> with_reducible rfl)
      try simp only [List.getElem_toArray, List.getElem_cons_succ, List.getElem_cons_zero, Act.put, List.setIfInBounds_toArray, List.set_cons_zero, List.set_cons_succ]
      refine wpAnyH_take (i := 5) (oi := _) (v := ?_) rfl (by kernel_rfl) (by kernel_rfl) (by kernel_rfl) (fun _ _ _ h => h) (Or.inl ⟨by rfl, ?y5⟩) (by assumption) ?_
      case y5 => intro w hSw; (try dsimp only at hSw); (go_simp <;> with_reducible rfl)
      try simp only [List.getElem_toArray, List.getElem_cons_succ, List.getElem_cons_zero, Act.put, List.setIfInBounds_toArray, List.set_cons_zero, List.set_cons_succ]
      refine wpAnyH_take (i := 6) (oi := _) (v := ?_) rfl (by kernel_rfl) (by kernel_rfl) (by kernel_rfl) (fun _ _ _ h => h) (Or.inl ⟨by rfl, ?y6⟩) (by assumption) ?_
      case y6 => intro w hSw; (try dsimp only at hSw); (go_simp <;> with_reducible rfl)
      try simp only [List.getElem_toArray, List.getElem_cons_succ, List.getElem_cons_zero, Act.put, List.setIfInBounds_toArray, List.set_cons_zero, List.set_cons_succ]
      refine wpAnyH_take (i := 7) (oi := _) (v := undef) rfl (by kernel_rfl) (by kernel_rfl) (by kernel_rfl) (fun _ _ _ h => h) (Or.inr ⟨by rfl, rfl⟩) (by assumption) ?_
      try simp only [List.getElem_toArray, List.getElem_cons_succ, List.getElem_cons_zero, Act.put, List.setIfInBounds_toArray, List.set_cons_zero, List.set_cons_succ]
      refine wpAnyH_take (i := 8) (oi := _) (v := undef) rfl (by kernel_rfl) (by kernel_rfl) (by kernel_rfl) (fun _ _ _ h => h) (Or.inr ⟨by rfl, rfl⟩) (by assumption) ?_
      try simp only [List.getElem_toArray, List.getElem_cons_succ, List.getElem_cons_zero, Act.put, List.setIfInBounds_toArray, List.set_cons_zero, List.set_cons_succ]
      refine wpAnyH_take (i := 9) (oi := _) (v := undef) rfl (by kernel_rfl) (by kernel_rfl) (by kernel_rfl) (fun _ _ _ h => h) (Or.inr ⟨by rfl, rfl⟩) (by assumption) ?_
      try simp only [List.getElem_toArray, List.getElem_cons_succ, List.getElem_cons_zero, Act.put, List.setIfInBounds_toArray, List.set_cons_zero, List.set_cons_succ]
      refine wpAnyH_take (i := 10) (oi := _) (v := undef) rfl (by kernel_rfl) (by kernel_rfl) (by kernel_rfl) (fun _ _ _ h => h) (Or.inr ⟨by rfl, rfl⟩) (by assumption) ?_
      try simp only [List.getElem_toArray, List.getElem_cons_succ, List.getElem_cons_zero, Act.put, List.setIfInBounds_toArray, List.set_cons_zero, List.set_cons_succ]
      refine wpAnyH_take (i := 11) (oi := _) (v := undef) rfl (by kernel_rfl) (by kernel_rfl) (by kernel_rfl) (fun _ _ _ h => h) (Or.inr ⟨by rfl, rfl⟩) (by assumption) ?_
      try simp only [List.getElem_toArray, List.getElem_cons_succ, List.getElem_cons_zero, Act.put, List.setIfInBounds_toArray, List.set_cons_zero, List.set_cons_succ]
      refine wpAnyH_take (i := 12) (oi := _) (v := undef) rfl (by kernel_rfl) (by kernel_rfl) (by kernel_rfl) (fun _ _ _ h => h) (Or.inr ⟨by rfl, rfl⟩) (by assumption) ?_
      try simp only [List.getElem_toArray, List.getElem_cons_succ, List.getElem_cons_zero, Act.put, List.setIfInBounds_toArray, List.set_cons_zero, List.set_cons_succ]
      refine wpAnyH_take (i := 13) (oi := _) (v := undef) rfl (by kernel_rfl) (by kernel_rfl) (by kernel_rfl) (fun _ _ _ h => h) (Or.inr ⟨by rfl, rfl⟩) (by assumption) ?_
      try simp only [List.getElem_toArray, List.getElem_cons_succ, List.getElem_cons_zero, Act.put, List.setIfInBounds_toArray, List.set_cons_zero, List.set_cons_succ]
      refine wpAnyH_take (i := 14) (oi := _) (v := undef) rfl (by kernel_rfl) (by kernel_rfl) (by kernel_rfl) (fun _ _ _ h => h) (Or.inr ⟨by rfl, rfl⟩) (by assumption) ?_
      try simp only [List.getElem_toArray, List.getElem_cons_succ, List.getElem_cons_zero, Act.put, List.setIfInBounds_toArray, List.set_cons_zero, List.set_cons_succ]
      refine wpAnyH_take (i := 15) (oi := _) (v := ?_) rfl (by kernel_rfl) (by kernel_rfl) (by kernel_rfl) (fun _ _ _ h => h) (Or.inl ⟨by rfl, ?y15⟩) (by assumption) ?_
      case y15 => intro w hSw; (try dsimp only at hSw); (go_simp <;> with_reducible rfl)
      try simp only [List.getElem_toArray, List.getElem_cons_succ, List.getElem_cons_zero, Act.put, List.setIfInBounds_toArray, List.set_cons_zero, List.set_cons_succ]
      refine wpAnyH_take (i := 16) (oi := _) (v := ?_) rfl (by kernel_rfl) (by kernel_rfl) (by kernel_rfl) (fun _ _ _ h => h) (Or.inl ⟨by rfl, ?y16⟩) (by assumption) ?_
      case y16 => intro w hSw; (try dsimp only at hSw); (go_simp <;> with_reducible rfl)
      try simp only [List.getElem_toArray, List.getElem_cons_succ, List.getElem_cons_zero, Act.put, List.setIfInBounds_toArray, List.set_cons_zero, List.set_cons_succ]
      refine wpAnyH_done (by kernel_rfl) ?_ _;go_wp2_with fail
      go_roundw
      case rel => exact ⟨k + 1, by omega, by go_num, by obtain ⟨_, _, _, _, _, _, _, h⟩ := hHeld; exact h⟩
      case measure => simp [intOf]; omega
    · obtain ⟨j, rfl⟩ : ∃ j, k = j + 1 := ⟨k - 1, by omega⟩
      have J : j < l.length := (by omega);have d1 : decide ((0 : Int) < ((j + 1 : Nat) : Int)) = true := decide_eq_true (by omega);have d2 : decide (0 < j + 1) = true := decide_eq_true (by omega);obtain ⟨b', off', e', _, R'⟩ := (HR.out.below hb).get J;cases e'
      have HLT := zI (show Jc7 l[j].nm.toList l[j].st l[j + 1].nm.toList l[j + 1].st = true from (Jb1 _ _ _ _).2 (List.pairwise_iff_getElem.1 HOR.out j (j + 1) J K (by omega)));have HLE := zI (fun r s t u v r' s' t' u' v' W => J1b l[j].nm l[j + 1].nm l[j].st l[j + 1].st r s t u v r' s' t' u' v' W);rw [HLT.out] at HLE;generalize l[j + 1]'K = x at *;generalize l[j]'J = y at *;have HX := zI (Jbu.new wr x);have HY := zI (R'.keep (Jaa hba none) (by simp));obtain ⟨r0, r1, r2, r3, r4, r5, r6⟩ := R;clear hb hba R';have hdr := (Below.refl (wr.alloc (.cells #[.string x.nm, .int .i64 x.st, .int .i64 x.ag.c, .int .i64 x.ag.hi, .int .u64 x.ag.lo, .int .i64 x.ag.mn, .int .i64 x.ag.mx] 169)).heap.size (wr.alloc (.cells #[.string x.nm, .int .i64 x.st, .int .i64 x.ag.c, .int .i64 x.ag.hi, .int .u64 x.ag.lo, .int .i64 x.ag.mn, .int .i64 x.ag.mx] 169))).drew;have X0 := HX.out.keep (Jaa hdr none) (by simp);have Y0 := HY.out.keep (Jaa hdr none) (by simp);have HBD := zI HB1.out.drew;have hj0 : (0 : Int) <= (j : Int) := (by omega);have hj1 : (j : Int) < (n : Int) := (by omega);have hjw : IntKind.i64.wrap (j : Int) = (j : Int) := IntWalk.i64_in _ (by omega);go_upto_region 6 with fail
      refine wp_region_held_drew (S := (fun w' => w'.cell? ⟨wr.heap.size, 0, none⟩ = some (.string x.nm) /\ w'.cell? ⟨wr.heap.size, 1, none⟩ = some (.int .i64 x.st) /\ w'.cell? ⟨wr.heap.size, 2, none⟩ = some (.int .i64 x.ag.c) /\ w'.cell? ⟨wr.heap.size, 3, none⟩ = some (.int .i64 x.ag.hi) /\ w'.cell? ⟨wr.heap.size, 4, none⟩ = some (.int .u64 x.ag.lo) /\ w'.cell? ⟨wr.heap.size, 5, none⟩ = some (.int .i64 x.ag.mn) /\ w'.cell? ⟨wr.heap.size, 6, none⟩ = some (.int .i64 x.ag.mx) /\ w'.cell? ⟨b, off + j * 7, none⟩ = some (.string y.nm) /\ w'.cell? ⟨b, off + j * 7 + 1, none⟩ = some (.int .i64 y.st) /\ w'.cell? ⟨b, off + j * 7 + 2, none⟩ = some (.int .i64 y.ag.c) /\ w'.cell? ⟨b, off + j * 7 + 3, none⟩ = some (.int .i64 y.ag.hi) /\ w'.cell? ⟨b, off + j * 7 + 4, none⟩ = some (.int .u64 y.ag.lo) /\ w'.cell? ⟨b, off + j * 7 + 5, none⟩ = some (.int .i64 y.ag.mn) /\ w'.cell? ⟨b, off + j * 7 + 6, none⟩ = some (.int .i64 y.ag.mx) /\ Below w.heap.size w w')) (by kernel_rfl) ?_ (fun hHeld => ?_)
      · exact ⟨X0.c0, X0.c1, X0.c2, X0.c3, X0.c4, X0.c5, X0.c6, Y0.c0, Y0.c1, Y0.c2, Y0.c3, Y0.c4, Y0.c5, Y0.c6, HBD.out⟩
      refine wpAnyH_take (i := 0) (oi := _) (v := ?_) rfl (by kernel_rfl) (by kernel_rfl) (by kernel_rfl) (fun _ _ _ h => h) (Or.inl ⟨by rfl, ?y0⟩) (by assumption) ?_
      case y0 => intro w hSw; (try dsimp only at hSw); (go_simp <;> with_reducible rfl)
      try simp only [List.getElem_toArray, List.getElem_cons_succ, List.getElem_cons_zero, Act.put, List.setIfInBounds_toArray, List.set_cons_zero, List.set_cons_succ]
      refine wpAnyH_ready (rs := [1]) (by kernel_rfl) (by simp) (AllReadyH.cons (o := _) rfl (fun K hK => ?_) AllReadyH.nil);go_simp
      go_at_call 211
      refine (HV.out _).mono ?_;rintro e w2 ⟨rfl, hb2⟩;refine hK.out _ _ ?_ (fun hHeld => ?_)
      · (obtain ⟨_, _, _, _, _, _, _, _, _, _, _, _, _, _, hbel⟩ := hHeld; have X2 := (Jbu.mk (w := _) (b := wr.heap.size) (off := 0) (r := x) (by assumption) (by assumption) (by assumption) (by assumption) (by assumption) (by assumption) (by assumption)).keep (Jaa hb2 none) (by simp); have Y2 := (Jbu.mk (w := _) (b := b) (off := off + j * 7) (r := y) (by assumption) (by assumption) (by assumption) (by assumption) (by assumption) (by assumption) (by assumption)).keep (Jaa hb2 none) (by simp); exact ⟨X2.c0, X2.c1, X2.c2, X2.c3, X2.c4, X2.c5, X2.c6, Y2.c0, Y2.c1, Y2.c2, Y2.c3, Y2.c4, Y2.c5, Y2.c6, hbel.trans (hb2.mono hbel.size)⟩)
      clear hK K
      try simp only [List.getElem_toArray, List.getElem_cons_succ, List.getElem_cons_zero, Act.put, List.setIfInBounds_toArray, List.set_cons_zero, List.set_cons_succ]
      refine wpAnyH_take (i := 2) (oi := _) (v := ?_) rfl (by kernel_rfl) (by kernel_rfl) (by kernel_rfl) (fun _ _ _ h => h) (Or.inl ⟨by rfl, ?y2⟩) (by assumption) ?_
      case y2 => intro w hSw; (try dsimp only at hSw); (go_simp <;> with_reducible rfl)
      try simp only [List.getElem_toArray, List.getElem_cons_succ, List.getElem_cons_zero, Act.put, List.setIfInBounds_toArray, List.set_cons_zero, List.set_cons_succ]
      refine wpAnyH_take (i := 3) (oi := _) (v := ?_) rfl (by kernel_rfl) (by kernel_rfl) (by kernel_rfl) (fun _ _ _ h => h) (Or.inl ⟨by rfl, ?y3⟩) (by assumption) ?_
      case y3 => intro w hSw; (try dsimp only at hSw); (go_simp <;> with_reducible rfl)
      try simp only [List.getElem_toArray, List.getElem_cons_succ, List.getElem_cons_zero, Act.put, List.setIfInBounds_toArray, List.set_cons_zero, List.set_cons_succ]
      refine wpAnyH_take (i := 4) (oi := _) (v := ?_) rfl (by kernel_rfl) (by kernel_rfl) (by kernel_rfl) (fun _ _ _ h => h) (Or.inl ⟨by rfl, ?y4⟩) (by assumption) ?_
      case y4 => intro w hSw; (try dsimp only at hSw); (go_simp <;> with_reducible rfl)
      try simp only [List.getElem_toArray, List.getElem_cons_succ, List.getElem_cons_zero, Act.put, List.setIfInBounds_toArray, List.set_cons_zero, List.set_cons_succ]
      refine wpAnyH_take (i := 5) (oi := _) (v := ?_) rfl (by kernel_rfl) (by kernel_rfl) (by kernel_rfl) (fun _ _ _ h => h) (Or.inl ⟨by rfl, ?y5⟩) (by assumption) ?_
      case y5 => intro w hSw; (try dsimp only at hSw); (go_simp <;> with_reducible rfl)
      try simp only [List.getElem_toArray, List.getElem_cons_succ, List.getElem_cons_zero, Act.put, List.setIfInBounds_toArray, List.set_cons_zero, List.set_cons_succ]
      refine wpAnyH_take (i := 6) (oi := _) (v := ?_) rfl (by kernel_rfl) (by kernel_rfl) (by kernel_rfl) (fun _ _ _ h => h) (Or.inl ⟨by rfl, ?y6⟩) (by assumption) ?_
      case y6 => intro w hSw; (try dsimp only at hSw); (go_simp <;> with_reducible rfl)
      try simp only [List.getElem_toArray, List.getElem_cons_succ, List.getElem_cons_zero, Act.put, List.setIfInBounds_toArray, List.set_cons_zero, List.set_cons_succ]
      refine wpAnyH_take (i := 7) (oi := _) (v := ?_) rfl (by kernel_rfl) (by kernel_rfl) (by kernel_rfl) (fun _ _ _ h => h) (Or.inl ⟨by rfl, ?y7⟩) (by assumption) ?_
      case y7 => intro w hSw; (try dsimp only at hSw); (go_simp <;> with_reducible rfl)
      try simp only [List.getElem_toArray, List.getElem_cons_succ, List.getElem_cons_zero, Act.put, List.setIfInBounds_toArray, List.set_cons_zero, List.set_cons_succ]
      refine wpAnyH_take (i := 8) (oi := _) (v := ?_) rfl (by kernel_rfl) (by kernel_rfl) (by kernel_rfl) (fun _ _ _ h => h) (Or.inl ⟨by rfl, ?y8⟩) (by assumption) ?_
      case y8 => intro w hSw; (try dsimp only at hSw); (go_simp <;> with_reducible rfl)
      try simp only [List.getElem_toArray, List.getElem_cons_succ, List.getElem_cons_zero, Act.put, List.setIfInBounds_toArray, List.set_cons_zero, List.set_cons_succ]
      refine wpAnyH_take (i := 9) (oi := _) (v := ?_) rfl (by kernel_rfl) (by kernel_rfl) (by kernel_rfl) (fun _ _ _ h => h) (Or.inl ⟨by rfl, ?y9⟩) (by assumption) ?_
      case y9 => intro w hSw; (try dsimp only at hSw); (go_simp <;> with_reducible rfl)
      try simp only [List.getElem_toArray, List.getElem_cons_succ, List.getElem_cons_zero, Act.put, List.setIfInBounds_toArray, List.set_cons_zero, List.set_cons_succ]
      refine wpAnyH_take (i := 10) (oi := _) (v := ?_) rfl (by kernel_rfl) (by kernel_rfl) (by kernel_rfl) (fun _ _ _ h => h) (Or.inl ⟨by rfl, ?y10⟩) (by assumption) ?_
      case y10 => intro w hSw; (try dsimp only at hSw); (go_simp <;> with_reducible rfl)
      try simp only [List.getElem_toArray, List.getElem_cons_succ, List.getElem_cons_zero, Act.put, List.setIfInBounds_toArray, List.set_cons_zero, List.set_cons_succ]
      refine wpAnyH_take (i := 11) (oi := _) (v := ?_) rfl (by kernel_rfl) (by kernel_rfl) (by kernel_rfl) (fun _ _ _ h => h) (Or.inl ⟨by rfl, ?y11⟩) (by assumption) ?_
      case y11 => intro w hSw; (try dsimp only at hSw); (go_simp <;> with_reducible rfl)
      try simp only [List.getElem_toArray, List.getElem_cons_succ, List.getElem_cons_zero, Act.put, List.setIfInBounds_toArray, List.set_cons_zero, List.set_cons_succ]
      refine wpAnyH_take (i := 12) (oi := _) (v := ?_) rfl (by kernel_rfl) (by kernel_rfl) (by kernel_rfl) (fun _ _ _ h => h) (Or.inl ⟨by rfl, ?y12⟩) (by assumption) ?_
      case y12 => intro w hSw; (try dsimp only at hSw); (go_simp <;> with_reducible rfl)
      try simp only [List.getElem_toArray, List.getElem_cons_succ, List.getElem_cons_zero, Act.put, List.setIfInBounds_toArray, List.set_cons_zero, List.set_cons_succ]
      refine wpAnyH_ready (rs := [13]) (by kernel_rfl) (by simp) (AllReadyH.cons (o := _) rfl (fun K hK => ?_) AllReadyH.nil);go_simp
      go_at_call 212
      refine (HLE.out _ _ _ _ _ _ _ _ _ _ _).mono ?_;rintro e w3 ⟨rfl, hb3⟩;refine hK.out _ _ ?_ (fun hHeld => ?_)
      · (obtain ⟨_, _, _, _, _, _, _, _, _, _, _, _, _, _, hbel⟩ := hHeld; have X2 := (Jbu.mk (w := _) (b := wr.heap.size) (off := 0) (r := x) (by assumption) (by assumption) (by assumption) (by assumption) (by assumption) (by assumption) (by assumption)).keep (Jaa hb3 none) (by simp); have Y2 := (Jbu.mk (w := _) (b := b) (off := off + j * 7) (r := y) (by assumption) (by assumption) (by assumption) (by assumption) (by assumption) (by assumption) (by assumption)).keep (Jaa hb3 none) (by simp); exact ⟨X2.c0, X2.c1, X2.c2, X2.c3, X2.c4, X2.c5, X2.c6, Y2.c0, Y2.c1, Y2.c2, Y2.c3, Y2.c4, Y2.c5, Y2.c6, hbel.trans (hb3.mono hbel.size)⟩)
      clear hK K
      try simp only [List.getElem_toArray, List.getElem_cons_succ, List.getElem_cons_zero, Act.put, List.setIfInBounds_toArray, List.set_cons_zero, List.set_cons_succ]
      refine wpAnyH_take (i := 14) (oi := _) (v := ?_) rfl (by kernel_rfl) (by kernel_rfl) (by kernel_rfl) (fun _ _ _ h => h) (Or.inl ⟨by rfl, ?y14⟩) (by assumption) ?_
      case y14 => intro w hSw; (try dsimp only at hSw); (go_simp <;> with_reducible rfl)
      try simp only [List.getElem_toArray, List.getElem_cons_succ, List.getElem_cons_zero, Act.put, List.setIfInBounds_toArray, List.set_cons_zero, List.set_cons_succ]
      refine wpAnyH_take (i := 15) (oi := _) (v := ?_) rfl (by kernel_rfl) (by kernel_rfl) (by kernel_rfl) (fun _ _ _ h => h) (Or.inl ⟨by rfl, ?y15⟩) (by assumption) ?_
      case y15 => intro w hSw; (try dsimp only at hSw); (go_simp <;> with_reducible rfl)
      try simp only [List.getElem_toArray, List.getElem_cons_succ, List.getElem_cons_zero, Act.put, List.setIfInBounds_toArray, List.set_cons_zero, List.set_cons_succ]
      refine wpAnyH_take (i := 16) (oi := _) (v := ?_) rfl (by kernel_rfl) (by kernel_rfl) (by kernel_rfl) (fun _ _ _ h => h) (Or.inl ⟨by rfl, ?y16⟩) (by assumption) ?_
      case y16 => intro w hSw; (try dsimp only at hSw); (go_simp <;> with_reducible rfl)
      try simp only [List.getElem_toArray, List.getElem_cons_succ, List.getElem_cons_zero, Act.put, List.setIfInBounds_toArray, List.set_cons_zero, List.set_cons_succ]
      refine wpAnyH_done (by kernel_rfl) ?_ _;clear hjw;go_wp2_with fail
      go_roundw
      case rel => exact ⟨j + 1 + 1, by omega, by go_num, by obtain ⟨_, _, _, _, _, _, _, _, _, _, _, _, _, _, h⟩ := hHeld; exact h⟩
      case measure => simp [intOf]; omega
  · have hke : n = k := by omega
    have HBL := zI (Jfi n wr (by omega));have d3 : decide ((12288 : Int) < (n : Int)) = false := decide_eq_false (by omega);have HB := zI hb;obtain ⟨N, hN⟩ : ∃ N, N = sgN n := ⟨_, rfl⟩;have HN := zI hN;have hN2 : 3 * N < n + 3 := by rw [hN]; unfold sgN; omega
    have hN3 : N <= 10000 := (by omega);rw [<- hN] at HBL;clear hb hke hN;go_wp2_with fail
    refine HBL.out.mono ?_;rintro e w2 ⟨rfl, hw⟩;subst hw;obtain ⟨wo, hwo⟩ : ∃ wo : World, wo = wr := ⟨_, rfl⟩;rw [<- hwo] at HB ⊢;clear hwo HBL;go_wp2_with fail
    go_loopw [12, 54] (fun v i wr => ∃ p : Nat, p <= N /\ i = .int .i64 (p : Int) /\ wr.ownsRow w.heap.size 9 1 v p ((List.range p).map fun q => Value.string (strOf (sgBk id tier shard q N (sgPt l q)))) /\ Below w.heap.size w wr) (fun _ i _ => N - (intOf i).toNat)
    case atStart => exact ⟨0, Nat.zero_le _, rfl, World.ownsRow_nil _ _ _ _, HB.out⟩
    case round =>
     obtain ⟨p, hp, rfl, hown, hb⟩ := hrel;by_cases hlt : p < N
     · have h3p : 3 * p < n := by omega
       have K : 3 * p < l.length := by rw [HLN.out]; exact h3p
       have hRb := HR.out.below hb;obtain ⟨b, off, rfl, hbl, _⟩ := hRb.get K;have HRB := zI hRb;have HO := zI hown;have HB2 := zI hb;clear hown hb hRb;obtain ⟨m, hm⟩ : ∃ m, m = (sgPt l p).length := ⟨_, rfl⟩;have hm3 : m = min 3 (n - 3 * p) := by rw [hm]; unfold sgPt; rw [List.length_take, List.length_drop, HLN.out]
       have HM := zI (show (min (((p : Int) + 1) * 3) (n : Int)).toNat - p * 3 = m from by omega);have hm4 : m <= 3 := (by omega)
       have HPT := zI (show Rcs wr (some ⟨b, off + p * 3 * 7, none⟩) m (sgPt l p) from by
        have := HRB.out.part (3 * p) 3;rw [hm, Nat.mul_comm p 3]; exact this)
       have HFT := zI (show J1a id tier shard p N m from ⟨HID.out, by omega, by omega, by omega, by omega, by omega⟩);have HFP := zI (show ∀ r ∈ sgPt l p, r.Fine from fun r hr => HFI.out r (List.mem_of_mem_drop (List.mem_of_mem_take hr)));have HK := zI (show p + 1 <= 1000000 from by omega);have hba := (Below.refl wr.heap.size wr).alloc (Nat.le_refl _) (.cells #[.int .u64 (id : Int), .int .i64 (tier : Int), .int .i64 (shard : Int), .int .i64 (p : Int), .int .i64 (N : Int), .int .i64 (m : Int)] 242);have HS1 := zI (Jua id tier shard p N m _ (c - p * 3) (sgPt l p) _ HFT.out (Rcs.below HPT.out hba) HFP.out hm4);have HBA := zI hba;have HSU := zI (show ((List.range p).map fun q => Value.string (strOf (sgBk id tier shard q N (sgPt l q)))) ++ [Value.string (strOf (sgBk id tier shard p N (sgPt l p)))] = (List.range (p + 1)).map fun q => Value.string (strOf (sgBk id tier shard q N (sgPt l q))) from by rw [List.range_succ, List.map_append]; rfl);generalize strOf (sgBk id tier shard p N (sgPt l p)) = Z at *;clear hm hm3 hba hm4;go_upto_region 17 with fail
       rw [HM.out];go_wp2_with fail
       refine HS1.out.mono ?_;rintro e w3 ⟨rfl, hb3⟩;have hb4 := HBA.out.trans (hb3.mono HBA.out.size);have hb5 := hb4.alloc hb4.size (.cells #[.string Z] 9);have HO5 := zI (Jaj HO.out hb5);have HB5 := zI (HB2.out.trans (hb5.mono HB2.out.size));have HSL := zI (Sl.new w3 9 w3.heap.size [.string Z] #[.string Z] rfl rfl);have HON := zI (show ∀ u ∈ [Value.string Z], u.oneCell' = true from by intro u hu; rw [List.mem_singleton.1 hu]; rfl);clear hb3 hb4 hb5;go_wp2_with (at_builtin; refine Jp8 rfl _ _ rfl HO5.out rfl (some ⟨w3.heap.size, 0, none⟩) 1 1 [.string Z] rfl rfl HSL.out HON.out HK.out HB5.out.size ?_; intro A' c' w6 ho6 hg6)
       have hb6 := Jb8 HO5.out hg6 HB5.out HB5.out.size;rw [HSU.out] at ho6;go_roundw
       case rel => exact ⟨p + 1, by omega, by go_num, ho6, hb6⟩
       case measure => simp [intOf]; omega
     · have hpe : p = N := by omega
       have HQ := zI (show ((List.range p).map fun q => Value.string (strOf (sgBk id tier shard q N (sgPt l q)))) = (sgL id tier shard l).map Value.string from by
        unfold sgL;rw [HLN.out, <- HN.out, List.map_map, hpe];rfl)
       rw [HQ.out] at hown;have HO := zI hown;have HB2 := zI hb;have HPE := zI (show p = sgN n from hpe.trans HN.out);obtain ⟨Av, cv, rfl, _⟩ := Jaq hown;clear hown hb HQ hpe;go_wp2_with fail
       go_ret2;exact ⟨_, rfl, by rw [<- HPE.out]; exact HO.out, HB2.out⟩
end Go.Proofs.YtalkkhafcfhglaaGreatDoor
