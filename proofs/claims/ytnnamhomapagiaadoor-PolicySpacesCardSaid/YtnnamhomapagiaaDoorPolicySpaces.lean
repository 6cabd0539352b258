/-
  PolicySpaces: its walk.
-/
import Derived.Test.YtnnamhomapagiaaDoorPolTwice
import Derived.Test.YtnnamhomapagiaaDoorRulesLaws
namespace Go.Proofs.YtnnamhomapagiaaDoor
open Go.ChangeShapes Go.WideShapes Go.ChangeAt Go.RowKit Go.Deep

theorem and_three (z : Int) : bits .and .i64 z 3 = 0 ∨ bits .and .i64 z 3 = 1 ∨ bits .and .i64 z 3 = 2 ∨ bits .and .i64 z 3 = 3 := by
  obtain ⟨n, hn⟩ : ∃ n, n = (BitVec.ofInt 64 z &&& BitVec.ofInt 64 3).toNat := ⟨_, rfl⟩
  have e : bits .and .i64 z 3 = IntKind.i64.wrap (n : Int) := by rw [hn]; rfl
  have h4 : n < 4 := by
    rw [hn, BitVec.toNat_and]
    exact Nat.lt_of_le_of_lt Nat.and_le_right (by decide)
  have hw : IntKind.i64.wrap (n : Int) = n := IntWalk.i64_in _ (by omega)
  rw [e, hw]; omega
theorem app_list (a b : ByteArray) : (a ++ b).toList = a.toList ++ b.toList := by rw [ByteArray.toList_eq, ByteArray.toList_eq, ByteArray.toList_eq]; simp
theorem exp_snoc {S t : ByteArray} {i : Nat} (hi : i < S.size) (h : Exp (S.toList.take i) t.toList) (g : ByteArray) (hg : Exp [S[i]] g.toList) : Exp (S.toList.take (i + 1)) (t ++ g).toList := by
  rw [take_snoc S i hi, app_list]; exact h.append hg
theorem exp_sp (g : List UInt8) (h : SpG g) : Exp [32] g := by
  have := Exp.sp g [] [] h Exp.nil
  rwa [List.append_nil] at this
theorem exp_nl (g : List UInt8) (h : NlG g) : Exp [10] g := by
  have := Exp.nl g [] [] h Exp.nil
  rwa [List.append_nil] at this
theorem ext_list (S : ByteArray) (i : Nat) (hi : i < S.size) : (S.extract i (i + 1)).toList = [S[i]] := by
  rw [extract_is, toList_mk, take_snoc S i hi, List.drop_append_of_le_length (by rw [List.length_take, len_toList]; omega), List.drop_of_length_le (by rw [List.length_take]; omega)]; rfl
theorem ext_size (S : ByteArray) (i : Nat) (hi : i < S.size) : (S.extract i (i + 1)).size = 1 := by rw [← len_toList, ext_list S i hi]; rfl
theorem readT_of {nm : List UInt8} {ts : List Ti} {s : ByteArray} (h : checkR nm ts = (0, 0)) (hs : s.size ≤ 4000) (he : Exp (printL nm ts) s.toList) : readT s = .good nm ts := by
  obtain ⟨hv, h1, h5, hf, _⟩ := check_fine h
  have e := parse_back nm ts s hs hv hf h5 he
  unfold readT
  rw [e]
  simp only [h]
  rfl
theorem sameP_is (x : ByteArray) (a : List Ti) : sameP x x a a = true := sameP_iff.2 ⟨rfl, rfl⟩
set_option maxRecDepth 100000 in
set_option maxHeartbeats 4000000 in
theorem walk_PolicySpaces {v0 : Value} (x : ByteArray × Option Addr × Nat × Nat × List Ti) (B : Option Addr) (gn gc : Nat) (zs : List Int) (w : World) (hm : ∃ m : Int, w.cell? ⟨0, 0, none⟩ = some (.int .i64 m)) (htab : Lib.TabIs Tryd.prog w "internal/strconv.uint64pow10" .u64 Lib.pow10Tab)
    (hx : PolArg w v0 x) (hz : Ints w .i64 B gn zs) :
    Calls Tryd.prog 6 #[v0, .slice B gn gc] w fun e w' => e = .returned (.bool true) ∧ Below w.heap.size w w' := by
  obtain ⟨nm, A, n, c, ts⟩ := x
  obtain ⟨rfl, hnm, hts, hc⟩ := hx
  simp only at hnm hts hc ⊢
  have hlt0 : 0 < w.heap.size := by obtain ⟨m, h⟩ := hm; have := block_lt_of_cell h; simpa using this
  have HM := Lib.hid (fun W (hW : Below w.heap.size w W) => hm.imp fun m h => (hW.cell (p := ⟨0, 0, none⟩) hlt0).trans h)
  have HTAB := Lib.hid (fun W (hW : Below w.heap.size w W) => Lib.tabBelow_of_tabIs htab W hW)
  have HALIVE := Lib.hid (fun W (hW : Below w.heap.size w W) => alive_any W (HM.out W hW) (HTAB.out W hW))
  have HT := Lib.hid hts
  have HZ := Lib.hid hz
  have HNM := Lib.hid hnm
  have hb0 : Below w.heap.size w (w.alloc (.cells #[.string nm, .slice A n c] 24)) := (Below.refl _ _).alloc (Nat.le_refl _) _
  have bp := Bx.new w 24 #[.string nm, .slice A n c]
  have p0 := bp.at_ 0 rfl
  have p1 := bp.at_ 1 rfl
  have HPR := Lib.hid (fun W (hW : Below w.heap.size w W) => print_any nm A n c ts W HNM.out (HT.out.below hW) hc (HTAB.out W hW))
  clear hm htab hlt0 hts hnm hz
  by_cases h60 : 60 < gn
  · have z1 : decide (60 < (gn : Int)) = true := decide_eq_true (by omega)
    go_enter Tryd.func6, Tryd.ntmps6
    go_wp2_with (first
      | (go_at_call 8; refine (small_any nm A n c ts _ HNM.out (HT.out.below hb0)).mono ?_; rintro e w2 ⟨b1, rfl, _, hb2⟩
         have hbx := hb0.trans (hb2.mono hb0.size)
         have bpx := bp.below hb2
         have p0 := bpx.at_ 0 rfl
         have p1 := bpx.at_ 1 rfl)
      | (go_at_call 9; refine (HALIVE.out _ hbx).mono ?_; rintro e w5 ⟨rfl, hb5⟩
         have hfin := hbx.trans (hb5.mono hbx.size)))
    all_goals
      go_ret
      exact ⟨rfl, hfin⟩
  have z1 : decide (60 < (gn : Int)) = false := decide_eq_false (by omega)
  rcases checkR_cases nm.toList ts with hck | ⟨h23, _, _⟩
  rotate_left
  · have hz : (checkR nm.toList ts).1 ≠ 0 := by omega
    have hz' : ((checkR nm.toList ts).1 != 0) = true := bne_iff_ne.2 hz
    clear hz h23
    go_enter Tryd.func6, Tryd.ntmps6
    go_wp2_with (first
      | (go_at_call 8; refine (small_any nm A n c ts _ HNM.out (HT.out.below hb0)).mono ?_; rintro e w2 ⟨b1, rfl, _, hb2⟩
         have hbx := hb0.trans (hb2.mono hb0.size)
         have bpx := bp.below hb2
         have p0 := bpx.at_ 0 rfl
         have p1 := bpx.at_ 1 rfl)
      | (go_at_call 10; refine (HPR.out _ hbx).mono ?_; rintro e w3 ⟨rfl, hb3⟩
         have hbx := hbx.trans (hb3.mono hbx.size))
      | (go_at_call 9; refine (HALIVE.out _ hbx).mono ?_; rintro e w5 ⟨rfl, hb5⟩
         have hfin := hbx.trans (hb5.mono hbx.size)))
    all_goals
      go_ret
      exact ⟨rfl, hfin⟩
  go_enter Tryd.func6, Tryd.ntmps6
  go_upto_region 6 with (first
    | (go_at_call 8; refine (small_any nm A n c ts _ HNM.out (HT.out.below hb0)).mono ?_; rintro e w2 ⟨b1, rfl, _, hb2⟩
       have hbx := hb0.trans (hb2.mono hb0.size)
       have bpx := bp.below hb2
       have p0 := bpx.at_ 0 rfl
       have p1 := bpx.at_ 1 rfl)
    | (go_at_call 10; refine (printP_any nm A n c ts _ hck (HT.out.below hbx) hc (HTAB.out _ hbx)).mono ?_; rintro e w3 ⟨rfl, hb3⟩
       have hbx := hbx.trans (hb3.mono hbx.size)
       have bpx := bpx.below hb3)
    | (go_at_call 9; refine (HALIVE.out _ hbx).mono ?_; rintro e w5 ⟨rfl, hb5⟩
       have hfin := hbx.trans (hb5.mono hbx.size)))
  all_goals try (go_ret; exact ⟨rfl, hfin⟩)
  obtain ⟨hv, _, h5, hf, _⟩ := check_fine hck
  obtain ⟨S, hS⟩ : ∃ S : ByteArray, S = ⟨(printL nm.toList ts).toArray⟩ := ⟨_, rfl⟩
  have hSl : S.toList = printL nm.toList ts := by rw [hS, toList_mk]
  rw [← hS]
  have hSs : S.size ≤ 400 := by rw [← len_toList, hSl]; exact print_len hv hf h5
  have HSL := Lib.hid hSl
  have HRD := Lib.hid (fun (t : ByteArray) (hs : t.size ≤ 4000) (he : Exp (S.toList) t.toList) => readT_of hck hs (by rw [← hSl]; exact he))
  have hgn : gn ≤ 60 := by omega
  clear hv hf hS hSl h5 hb2 hb3 bp hb0 p0 p1 HPR z1 h60 hck
  go_wp2_with fail
  go_loopw [7, 8, 9, 10, 65, 80] (fun bv kv iv _ _ _ wr => ∃ (i : Nat) (tb : ByteArray) (k : Nat), i ≤ S.size ∧ iv = .int .i64 i ∧ bv = .string tb ∧ kv = .int .i64 k ∧ k ≤ i ∧ Hid (Exp (S.toList.take i) tb.toList) ∧ tb.size ≤ 10 * i ∧ Below w.heap.size w wr ∧ Bx wr w.heap.size 24 #[.string nm, .slice A n c]) (fun _ _ iv _ _ _ _ => S.size - (intOf iv).toNat)
  case atStart => exact ⟨0, ByteArray.empty, 0, Nat.zero_le _, rfl, rfl, rfl, Nat.le_refl _, Lib.hid (by rw [List.take_zero, ByteArray.toList_eq]; exact Exp.nil), by decide, hbx, bpx⟩
  case round =>
    clear hbx bpx
    obtain ⟨i, tb, k, hi, rfl, rfl, rfl, hki, HE, htb, hbr, bx⟩ := hrel
    have htb4 : tb.size ≤ 4000 := by omega
    by_cases hlt : i < S.size
    · have y1 : decide ((i : Int) < (S.size : Int)) = true := decide_eq_true (by omega)
      have g0 : (0 : Int) ≤ (i : Int) := by omega
      have g1 : (i : Int) < (S.size : Int) := by omega
      have hu : S[i].toNat ≤ 255 := by have := S[i].toNat_lt; omega
      have HX := Lib.hid (fun g hg => exp_snoc hlt HE.out g hg)
      have HXL := Lib.hid (ext_list S i hlt)
      have hxs := ext_size S i hlt
      by_cases h32 : (S[i].toNat : Int) = 32
      · have hb : S[i] = 32 := UInt8.toNat_inj.1 (by have : (32 : UInt8).toNat = 32 := rfl; omega)
        have h32' : ((S[i].toNat : Int) == 32) = true := beq_iff_eq.2 h32
        have h10' : ((S[i].toNat : Int) == 10) = false := beq_eq_false_iff_ne.2 (by omega)
        have HSP := Lib.hid (show ∀ g : ByteArray, SpG g.toList → Exp [S[i]] g.toList from fun g hg => by rw [hb]; exact exp_sp _ hg)
        have HSELF := Lib.hid (show Exp (S.toList.take (i + 1)) (tb ++ S.extract i (i + 1)).toList from HX.out _ (by rw [HXL.out]; exact Exp.refl _))
        clear hb h32
        by_cases hkg : k < gn
        rotate_left
        · have y2 : decide ((k : Int) < (gn : Int)) = false := decide_eq_false (by omega)
          go_wp2
          go_roundw
          case rel => exact ⟨i + 1, _, k + 1, by omega, by go_num, rfl, by go_num, by omega, HSELF.out, by rw [ByteArray.size_append]; omega, hbr, bx⟩
          case measure => simp [intOf]; omega
        have y2 : decide ((k : Int) < (gn : Int)) = true := decide_eq_true (by omega)
        have K : k < zs.length := by have := HZ.out.len; omega
        obtain ⟨bb, off, rfl, _, hcell⟩ := (HZ.out.below hbr).get K
        obtain ⟨z, hzz⟩ : ∃ z, zs[k]'K = z := ⟨_, rfl⟩
        rw [hzz] at hcell
        have gk0 : (0 : Int) ≤ (k : Int) := by omega
        have gk1 : (k : Int) < (gn : Int) := by omega
        have hba := (Below.refl wr.heap.size wr).alloc (Nat.le_refl _) (.cells #[.string ⟨#[]⟩, .string ⟨#[32, 32]⟩, .string ⟨#[9]⟩, .string ⟨#[32, 9, 32]⟩] 9)
        have hbr2 := hbr.trans (hba.mono hbr.size)
        have bx2 := bx.below hba
        clear hzz hba
        rcases and_three z with hg | hg | hg | hg
        · go_wp2
          go_roundw
          case rel => exact ⟨i + 1, _, k + 1, by omega, by go_num, rfl, by go_num, by omega, HSELF.out, by rw [ByteArray.size_append]; omega, hbr, bx⟩
          case measure => simp [intOf]; omega
        · go_wp2
          go_roundw
          case rel => exact ⟨i + 1, _, k + 1, by omega, by go_num, rfl, by go_num, by omega, Lib.hid (HX.out ⟨#[32, 32]⟩ (HSP.out _ (by rw [ByteArray.toList_eq]; exact .inr (.inl rfl)))), by rw [ByteArray.size_append]; show tb.size + 2 ≤ _; omega, hbr2, bx2⟩
          case measure => simp [intOf]; omega
        · go_wp2
          go_roundw
          case rel => exact ⟨i + 1, _, k + 1, by omega, by go_num, rfl, by go_num, by omega, Lib.hid (HX.out ⟨#[9]⟩ (HSP.out _ (by rw [ByteArray.toList_eq]; exact .inr (.inr (.inl rfl))))), by rw [ByteArray.size_append]; show tb.size + 1 ≤ _; omega, hbr2, bx2⟩
          case measure => simp [intOf]; omega
        · go_wp2
          go_roundw
          case rel => exact ⟨i + 1, _, k + 1, by omega, by go_num, rfl, by go_num, by omega, Lib.hid (HX.out ⟨#[32, 9, 32]⟩ (HSP.out _ (by rw [ByteArray.toList_eq]; exact .inr (.inr (.inr rfl))))), by rw [ByteArray.size_append]; show tb.size + 3 ≤ _; omega, hbr2, bx2⟩
          case measure => simp [intOf]; omega
      by_cases h10 : (S[i].toNat : Int) = 10
      · have hb : S[i] = 10 := UInt8.toNat_inj.1 (by have : (10 : UInt8).toNat = 10 := rfl; omega)
        have h32' : ((S[i].toNat : Int) == 32) = false := beq_eq_false_iff_ne.2 (by omega)
        have h10' : ((S[i].toNat : Int) == 10) = true := beq_iff_eq.2 h10
        have HSP := Lib.hid (show ∀ g : ByteArray, NlG g.toList → Exp [S[i]] g.toList from fun g hg => by rw [hb]; exact exp_nl _ hg)
        have HSELF := Lib.hid (show Exp (S.toList.take (i + 1)) (tb ++ S.extract i (i + 1)).toList from HX.out _ (by rw [HXL.out]; exact Exp.refl _))
        clear hb h10
        by_cases hkg : k < gn
        rotate_left
        · have y2 : decide ((k : Int) < (gn : Int)) = false := decide_eq_false (by omega)
          go_wp2
          go_roundw
          case rel => exact ⟨i + 1, _, k + 1, by omega, by go_num, rfl, by go_num, by omega, HSELF.out, by rw [ByteArray.size_append]; omega, hbr, bx⟩
          case measure => simp [intOf]; omega
        have y2 : decide ((k : Int) < (gn : Int)) = true := decide_eq_true (by omega)
        have K : k < zs.length := by have := HZ.out.len; omega
        obtain ⟨bb, off, rfl, _, hcell⟩ := (HZ.out.below hbr).get K
        obtain ⟨z, hzz⟩ : ∃ z, zs[k]'K = z := ⟨_, rfl⟩
        rw [hzz] at hcell
        have gk0 : (0 : Int) ≤ (k : Int) := by omega
        have gk1 : (k : Int) < (gn : Int) := by omega
        have hba := (Below.refl wr.heap.size wr).alloc (Nat.le_refl _) (.cells #[.string ⟨#[]⟩, .string ⟨#[10, 10]⟩, .string ⟨#[32, 35, 32, 120, 32, 121, 10]⟩, .string ⟨#[10, 35, 32, 116, 105, 101, 114, 32, 122, 10]⟩] 9)
        have hbr2 := hbr.trans (hba.mono hbr.size)
        have bx2 := bx.below hba
        clear hzz hba
        rcases and_three z with hg | hg | hg | hg
        · go_wp2
          go_roundw
          case rel => exact ⟨i + 1, _, k + 1, by omega, by go_num, rfl, by go_num, by omega, HSELF.out, by rw [ByteArray.size_append]; omega, hbr, bx⟩
          case measure => simp [intOf]; omega
        · go_wp2
          go_roundw
          case rel => exact ⟨i + 1, _, k + 1, by omega, by go_num, rfl, by go_num, by omega, Lib.hid (HX.out ⟨#[10, 10]⟩ (HSP.out _ (by rw [ByteArray.toList_eq]; exact .inr (.inl rfl)))), by rw [ByteArray.size_append]; show tb.size + 2 ≤ _; omega, hbr2, bx2⟩
          case measure => simp [intOf]; omega
        · go_wp2
          go_roundw
          case rel => exact ⟨i + 1, _, k + 1, by omega, by go_num, rfl, by go_num, by omega, Lib.hid (HX.out ⟨#[32, 35, 32, 120, 32, 121, 10]⟩ (HSP.out _ (by rw [ByteArray.toList_eq]; exact .inr (.inr (.inl rfl))))), by rw [ByteArray.size_append]; show tb.size + 7 ≤ _; omega, hbr2, bx2⟩
          case measure => simp [intOf]; omega
        · go_wp2
          go_roundw
          case rel => exact ⟨i + 1, _, k + 1, by omega, by go_num, rfl, by go_num, by omega, Lib.hid (HX.out ⟨#[10, 35, 32, 116, 105, 101, 114, 32, 122, 10]⟩ (HSP.out _ (by rw [ByteArray.toList_eq]; exact .inr (.inr (.inr rfl))))), by rw [ByteArray.size_append]; show tb.size + 10 ≤ _; omega, hbr2, bx2⟩
          case measure => simp [intOf]; omega
      have h32' : ((S[i].toNat : Int) == 32) = false := beq_eq_false_iff_ne.2 h32
      have h10' : ((S[i].toNat : Int) == 10) = false := beq_eq_false_iff_ne.2 h10
      have HSELF := Lib.hid (show Exp (S.toList.take (i + 1)) (tb ++ S.extract i (i + 1)).toList from HX.out _ (by rw [HXL.out]; exact Exp.refl _))
      clear h32 h10
      go_wp2
      go_roundw
      case rel => exact ⟨i + 1, _, k, by omega, by go_num, rfl, rfl, by omega, HSELF.out, by rw [ByteArray.size_append]; omega, hbr, bx⟩
      case measure => simp [intOf]; omega
    · have hie : i = S.size := by omega
      have y1 : decide ((i : Int) < (S.size : Int)) = false := decide_eq_false (by omega)
      have hrd := HRD.out tb htb4 (by have := HE.out; rwa [hie, List.take_of_length_le (by rw [len_toList]; omega)] at this)
      have HRE := Lib.hid (fun W (hW : Below w.heap.size w W) => read_any tb W (by unfold maxLen; omega) (HM.out W hW))
      rw [hrd] at HRE
      unfold ParseSays at HRE
      simp only [mk_toList] at HRE
      clear hrd HRD HE
      go_wp2_with (first
        | (go_at_call 11; refine (HRE.out _ hbr).mono ?_; rintro e w7 ⟨⟨A2, c2, rfl, hown2, hok2, _, htl2⟩, hb7⟩
           have hal7 := (Below.refl w7.heap.size w7).alloc (Nat.le_refl _) (.cells #[.string nm, .slice A2 ts.length c2] 24)
           have T2 : Tis w7 A2 ts.length ts := by obtain ⟨A', c', e, hh⟩ := own_tis hown2 rfl hok2 (by unfold maxLen; omega); cases e; exact hh
           have hba7 := hb7.trans (hal7.mono hb7.size)
           have hbx := hbr.trans (hba7.mono hbr.size)
           have bpx := bx.below hba7
           have bqx := Bx.new w7 24 #[.string nm, .slice A2 ts.length c2]
           have TT2 := Lib.hid (T2.below hal7)
           clear hown2 T2)
        | (go_at_call 9; refine (HALIVE.out _ hbx).mono ?_; rintro e w8 ⟨rfl, hb8⟩
           have hbx := hbx.trans (hb8.mono hbx.size)
           have bpx := bpx.below hb8
           have bqx := bqx.below hb8
           have TT3 := Lib.hid (TT2.out.below hb8)
           have p0 := bpx.at_ 0 rfl
           have p1 := bpx.at_ 1 rfl
           have r0 := bqx.at_ 0 rfl
           have r1 := bqx.at_ 1 rfl)
        | (go_at_call 16; refine (same_any nm nm A A2 n ts.length c c2 ts ts _ (HT.out.below hbx) TT3.out).mono ?_; rw [sameP_is]; rintro e w9 ⟨rfl, hb9⟩))
      go_ret
      exact ⟨rfl, hbx.trans (hb9.mono hbx.size)⟩
end Go.Proofs.YtnnamhomapagiaaDoor
