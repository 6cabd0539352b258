/-
  pool: Take.
-/
import Derived.Test.YtcglbbabfkbcbacPoolTake
namespace Go.Proofs.Ytcglbbabfkbcbac
open Go.RowKit Go.Maps

/-- Of the first a blocks those that are not used. -/
def freeIn (f : Int) (us : List Int) (a : Nat) : List Int := ((List.range a).map fun (j : Nat) => f + (j : Int)).filter fun z => decide (z ∉ us)
theorem freeIn_zero (f : Int) (us : List Int) : freeIn f us 0 = [] := rfl
theorem freeIn_succ (f : Int) (us : List Int) (a : Nat) : freeIn f us (a + 1) = freeIn f us a ++ (if f + (a : Int) ∈ us then [] else [f + (a : Int)]) := by
  unfold freeIn
  rw [List.range_succ, List.map_append, List.filter_append]
  congr 1
  by_cases h : f + (a : Int) ∈ us <;> simp [h]
theorem mem_freeIn {f : Int} {us : List Int} {a : Nat} {z : Int} : z ∈ freeIn f us a ↔ f ≤ z ∧ z < f + a ∧ z ∉ us := by
  unfold freeIn
  simp only [List.mem_filter, List.mem_map, List.mem_range, decide_eq_true_eq]
  constructor
  · rintro ⟨⟨j, hj, rfl⟩, h⟩; exact ⟨by omega, by omega, h⟩
  · rintro ⟨h1, h2, h3⟩; exact ⟨⟨(z - f).toNat, by omega, by omega⟩, h3⟩
theorem rising_range (f : Int) (a : Nat) : Rising ((List.range a).map fun (j : Nat) => f + (j : Int)) := by
  unfold Rising
  rw [List.pairwise_map]
  exact List.Pairwise.imp (fun {x y} (h : x < y) => by omega) List.pairwise_lt_range
theorem rising_freeIn (f : Int) (us : List Int) (a : Nat) : Rising (freeIn f us a) := List.Pairwise.filter _ (rising_range f a)
theorem length_parts {α : Type} (p : α → Bool) : ∀ l : List α, (l.filter p).length + (l.filter fun x => !p x).length = l.length
  | [] => rfl
  | x :: r => by
    have := length_parts p r
    cases h : p x <;> simp [h] <;> omega
theorem freeIn_len {f : Int} {us : List Int} {n : Nat} (hr : Rising us) (hi : ∀ z ∈ us, f ≤ z ∧ z < f + n) : (freeIn f us n).length + us.length = n := by
  have h1 : ((List.range n).map fun (j : Nat) => f + (j : Int)).filter (fun z => decide (z ∈ us)) = us :=
    rising_ext (List.Pairwise.filter _ (rising_range f n)) hr (fun x => by
      simp only [List.mem_filter, List.mem_map, List.mem_range, decide_eq_true_eq]
      constructor
      · exact fun h => h.2
      · intro h; have := hi x h; exact ⟨⟨(x - f).toNat, by omega, by omega⟩, h⟩)
  have h2 := length_parts (fun z => decide (z ∈ us)) ((List.range n).map fun (j : Nat) => f + (j : Int))
  rw [h1] at h2
  have h3 : (((List.range n).map fun (j : Nat) => f + (j : Int)).filter fun z => !decide (z ∈ us)) = freeIn f us n := by
    unfold freeIn; apply List.filter_congr; intro x _; simp
  rw [h3] at h2
  simp at h2; omega
theorem freeIn_prefix {f : Int} {us : List Int} {a n : Nat} (h : a ≤ n) : (freeIn f us n).take (freeIn f us a).length = freeIn f us a := by
  induction n with
  | zero => have : a = 0 := by omega
            subst this; rfl
  | succ n ih =>
    by_cases e : a = n + 1
    · subst e; exact List.take_length
    · rw [freeIn_succ, List.take_append_of_le_length, ih (by omega)]
      have := congrArg List.length (ih (by omega))
      rw [List.length_take] at this; omega
theorem freeIn_mono {f : Int} {us : List Int} {a n : Nat} (h : a ≤ n) : (freeIn f us a).length ≤ (freeIn f us n).length := by
  have := congrArg List.length (freeIn_prefix (f := f) (us := us) h)
  rw [List.length_take] at this; omega

/-- What Take hands out, and its error. -/
def takeOut (f n : Int) (us : List Int) (k : Int) : List Int × Int :=
  if k < 0 then ([], 1) else if n - us.length < k then ([], 20) else ((freeIn f us n.toNat).take k.toNat, 0)
def TakeSays (g m : Nat) (f n : Int) (us : List Int) (k : Int) (w : World) (e : Ending) (w' : World) : Prop :=
  ∃ v, e = .returned (.tuple #[v, .int .i64 (takeOut f n us k).2]) ∧ w'.ownsRow w.heap.size 3 1 v (takeOut f n us k).1.length ((takeOut f n us k).1.map (Value.int .i64)) ∧
    PoolAt w' g m f n (insAll us (takeOut f n us k).1) ∧ w.grownBy w' (some m)
theorem info_int : (Try.prog.info? 3).map (fun i => (i.zero, i.size, i.bytes)) = some (some (.int .i64 0), 1, 8) := by kernel_rfl
theorem own_ints {w : World} {base : Nat} {v : Value} {zs : List Int} (h : w.ownsRow base 3 1 v zs.length (zs.map (Value.int .i64))) (hs : ∀ z ∈ zs, (Lit.int .i64 z).wf = true) (hl : zs.length ≤ maxLen) :
    ∃ A c, v = .slice A zs.length c ∧ Ints w .i64 A zs.length zs := by
  rcases h.2 with ⟨rfl, he⟩ | ⟨g, cap, cur, rfl, _, hg, _, _, _, _⟩
  · have h0 : zs = [] := by simpa using he
    subst h0
    exact ⟨none, 0, rfl, Sl.nil _ _, rfl, by decide, by simp⟩
  · exact ⟨some ⟨g, 0, none⟩, cap, rfl, ⟨fun _ => ⟨g, 0, rfl, lt_of_block hg, fun j u hu => by
      have hj : j < zs.length := by have := (List.getElem?_eq_some_iff.1 hu).1; simpa using this
      rw [Nat.zero_add, h.cellAt j (by omega)]; exact hu⟩⟩, rfl, hl, hs⟩
theorem own_below {w w' : World} {base : Nat} {e : TypeId} {size : Nat} {v : Value} {n : Nat} {xs : List Value} (h : w.ownsRow base e size v n xs) (hb : Below w.heap.size w w') : w'.ownsRow base e size v n xs :=
  h.kept (grown_of_below hb none) (Classical.em _)
set_option maxRecDepth 100000 in
set_option maxHeartbeats 2000000 in
theorem take_any (g m : Nat) (f n : Int) (us : List Int) (k : Int) (w : World) (h : PoolAt w g m f n us) (hk : -9223372036854775808 ≤ k ∧ k ≤ 9223372036854775807) :
    Calls Try.prog 9 #[.pointer (some ⟨g, 0, none⟩), .int .i64 k] w (TakeSays g m f n us k w) := by
  obtain ⟨hk1, hk2⟩ := hk
  by_cases h1 : k < 0
  · have HO := Lib.hid (show takeOut f n us k = ([], 1) from if_pos h1)
    go_enter Try.func9, Try.ntmps9
    go_wp2_with fail
    go_ret2
    unfold TakeSays
    rw [HO.out]
    exact ⟨_, rfl, World.ownsRow_nil _ _ _ _, h, World.grownBy.refl _ _⟩
  · have hsz := h.size_le
    obtain ⟨hf0, hf1, hn0, hn1, hfn⟩ := h.rng
    by_cases h2 : n - us.length < k
    · have HO := Lib.hid (show takeOut f n us k = ([], 20) from by unfold takeOut; rw [if_neg h1, if_pos h2])
      clear hfn
      go_enter Try.func9, Try.ntmps9
      go_wp2_with fail
      refine (free_any g m f n us w h).mono ?_
      rintro e w1 ⟨rfl, hb⟩
      go_wp2_with fail
      go_ret2
      unfold TakeSays
      rw [HO.out]
      exact ⟨_, rfl, World.ownsRow_nil _ _ _ _, h.below hb, grown_of_below hb _⟩
    · have HO := Lib.hid (show takeOut f n us k = ((freeIn f us n.toNat).take k.toNat, 0) from by unfold takeOut; rw [if_neg h1, if_neg h2])
      obtain ⟨kn, hkn⟩ : ∃ kn : Nat, k = kn := ⟨k.toNat, by omega⟩
      obtain ⟨nn, hnn⟩ : ∃ nn : Nat, n = nn := ⟨n.toNat, by omega⟩
      subst hkn hnn
      have hfl := freeIn_len (n := nn) h.set.rising h.ins
      have HFL := Lib.hid hfl
      have hfr : kn ≤ (freeIn f us nn).length := by omega
      clear hfl
      obtain ⟨i0, hi, hz0, hz1, hz2⟩ := info_parts info_int
      have HFN := Lib.hid hfn
      clear hfn
      go_enter Try.func9, Try.ntmps9
      go_wp2_with fail
      refine (free_any g m f nn us w h).mono ?_
      rintro e w1 ⟨rfl, hb1⟩
      go_wp2_with fail
      go_loopw [6, 7] (fun v i wr => ∃ a : Nat, a ≤ nn ∧ i = .int .i64 a ∧ (freeIn f us a).length ≤ kn ∧ wr.ownsRow w.heap.size 3 1 v (freeIn f us a).length ((freeIn f us a).map (Value.int .i64)) ∧ Below w.heap.size w wr) (fun _ i _ => nn - (intOf i).toNat)
      case atStart => exact ⟨0, Nat.zero_le _, rfl, by simp [freeIn_zero], World.ownsRow_nil _ _ _ _, hb1⟩
      case round =>
        obtain ⟨a, ha, rfl, hlen, hown, hbel⟩ := hrel
        obtain ⟨A, c, rfl, hints⟩ := own_ints hown (fun z hz => wf_i64 (by have := mem_freeIn.1 hz; have := HFN.out; omega)) (by unfold maxLen; omega)
        by_cases hlt : (freeIn f us a).length < kn
        · have han : a < nn := by
            rcases Nat.lt_or_ge a nn with h' | h'
            · exact h'
            · have : a = nn := by omega
              subst this; omega
          have hf4 : f ≤ 4096 := by rcases HFN.out with h' | h' <;> omega
          have hp := h.below hbel
          obtain ⟨c0, c1, c2⟩ := hp.cells
          have HX := Lib.hid (freeIn_succ f us a)
          by_cases hu : f + (a : Int) ∈ us
          · have HX2 := Lib.hid (show freeIn f us (a + 1) = freeIn f us a from by rw [HX.out, if_pos hu, List.append_nil])
            have HU := Lib.hid (decide_eq_true hu)
            go_wp2_with (go_at_call 17; refine (has_any g m f nn us (f + a) wr hp (wf_i64 ⟨by omega, by omega⟩)).mono ?_; rintro e w2 ⟨rfl, hb2⟩; rw [HU.out])
            go_roundw
            case rel => exact ⟨a + 1, by omega, by go_num, by rw [HX2.out]; exact hlen, by rw [HX2.out]; exact own_below hown hb2, hbel.trans (hb2.mono hbel.size)⟩
            case measure => simp [intOf]; omega
          · have HX2 := Lib.hid (show freeIn f us (a + 1) = freeIn f us a ++ [f + (a : Int)] from by rw [HX.out, if_neg hu])
            have HU := Lib.hid (decide_eq_false hu)
            go_wp2_with fail
            refine (has_any g m f nn us (f + a) wr hp (wf_i64 ⟨by omega, by omega⟩)).mono ?_
            rintro e w2 ⟨rfl, hb2⟩
            rw [HU.out]
            have hown2 := own_below hown hb2
            have hb3 := hbel.trans (hb2.mono hbel.size)
            obtain ⟨d0, d1, d2⟩ := (hp.below hb2).cells
            clear c0 c1 c2
            go_wp2_with (at_builtin; refine wpList_append_own _ rfl _ _ 43 rfl w.heap.size 3 i0 (.int .i64 0) 1 8 Try.underlying43 hi hz0 hz1 hz2 rfl (by decide) _ _ _ rfl (hown2.alloc _) ⟨w2.heap.size, 0, none⟩ 1 1 [.int .i64 (f + a)] rfl rfl (cell_one_new _ _ _) (ints_oneCell _ [f + (a : Int)]) ?c3 ?c4 ?c5 ?_)
            case c3 => unfold maxLen; omega
            case c4 => omega
            case c5 => have := hb3.size; simp; omega
            intro v' w3 hown3 hgrow3 _
            have hb4 := (hb3.alloc hb3.size _).grown hgrow3 (by have := hb3.size; simp; omega) (fun j hj => (hown.lt j hj).1)
            clear hown2 hgrow3
            go_wp2
            go_roundw
            case rel => exact ⟨a + 1, by omega, by go_num, by rw [HX2.out]; simp; omega, by rw [HX2.out]; simpa using hown3, hb4⟩
            case measure => simp [intOf]; omega
        · have hke : (freeIn f us a).length = kn := by omega
          have HR := Lib.hid (show (freeIn f us nn).take kn = freeIn f us a from by rw [← hke]; exact freeIn_prefix ha)
          have hd : decide (((freeIn f us a).length : Int) < (kn : Int)) = false := by simp; omega
          have HO2 := Lib.hid (show takeOut f nn us kn = (freeIn f us a, 0) from by rw [HO.out]; simp only [Int.toNat_natCast]; rw [HR.out])
          have hp := h.below hbel
          by_cases hk0 : kn = 0
          · have e0 : freeIn f us a = [] := List.eq_nil_of_length_eq_zero (by omega)
            have hk0' : decide ((0 : Int) < (kn : Int)) = false := by simp; omega
            have hkz : ¬ 0 < kn := by omega
            have HE := Lib.hid e0
            clear e0 hke hk0
            go_wp2_with fail
            go_ret2
            unfold TakeSays
            rw [HO2.out]
            exact ⟨_, rfl, hown, by rw [HE.out]; exact hp, grown_of_below hbel _⟩
          · have hk0' : (0 : Int) < (kn : Int) := by omega
            have HKE := Lib.hid hke
            clear hke
            go_wp2_with fail
            refine (use_any g m f nn us A _ c (freeIn f us a) wr hp hints (fun z hz => by have := mem_freeIn.1 hz; omega)).mono ?_
            rintro e w4 ⟨rfl, hp4, hg4⟩
            have hown4 := hown.kept hg4 (by
              right
              intro e
              have h1 := (hown.lt m e).1
              have := h.set.lt
              omega)
            go_wp2_with fail
            go_ret2
            unfold TakeSays
            rw [HO2.out]
            exact ⟨_, rfl, hown4, hp4, grown_trans' (grown_of_below hbel _) ⟨hg4.os, hg4.tape, hg4.output, hg4.size, hg4.block⟩⟩
end Go.Proofs.Ytcglbbabfkbcbac
