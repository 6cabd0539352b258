/-
  policy.Print: the text of a policy that may be.
-/
import Derived.Test.YtnnamhomapagiaaGreatDoorPolSaid
import Derived.Test.YtnnamhomapagiaaGreatDoorPolCheck
import Derived.Test.YtnnamhomapagiaaGreatDoorPolBuild
import Derived.Lib.Join
namespace Go.Proofs.YtnnamhomapagiaaGreatDoor
open Go.ChangeShapes Go.WideShapes Go.ChangeAt Go.RowKit Go.Deep

def printT (nm : List UInt8) (ts : List Ti) : List UInt8 := if (checkR nm ts).1 = 0 then printL nm ts else []
theorem checkR_zero {nm : List UInt8} {ts : List Ti} (h : (checkR nm ts).1 = 0) : checkR nm ts = (0, 0) := by
  unfold checkR at h ⊢
  split
  · next hb => rw [if_pos hb] at h; simp at h
  · next hb =>
    rw [if_neg hb] at h
    cases hf : (List.range ts.length).find? (badAt ts) with
    | none => rfl
    | some i => rw [hf] at h; simp at h
theorem join_tier (t : Ti) : Lib.join [sTier, t.nm.toList, sEvery, Lib.itoa t.ev, sKeep, Lib.itoa t.kp, sShards, Lib.itoa t.sh] [32] ++ [10] = tierP t := by
  simp [Lib.join, List.intercalate, tierP]
theorem print_snoc (nm : List UInt8) (ts : List Ti) (t : Ti) : printL nm (ts ++ [t]) = printL nm ts ++ tierP t := by simp [printL]
theorem Bx.belowB {w w' : World} {g B : Nat} {T : TypeId} {cs : Array Value} (h : Bx w g T cs) (hb : Below B w w') (hg : g < B) : Bx w' g T cs := ⟨(hb.block g hg).trans h.blk⟩
structure PrS (w0 w : World) (bp bt bb : Nat) (pv tv : Array Value) (l : List UInt8) : Prop where
  bp : Bx w bp 24 pv
  bt : Bx w bt 49 tv
  bl : Bld w bb bb l
  bel : Below w0.heap.size w0 w
section
variable {w0 w w' : World} {bp bt bb : Nat} {nm : ByteArray} {A : Option Addr} {n c : Nat} {x : Ti} {l : List UInt8} {pv : Array Value}
theorem PrS.below {tv : Array Value} (h : PrS w0 w bp bt bb pv tv l) (hb : Below w.heap.size w w') : PrS w0 w' bp bt bb pv tv l := ⟨h.bp.below hb, h.bt.below hb, h.bl.below hb, h.bel.trans (hb.mono h.bel.size)⟩
theorem PrS.full (h : PrS w0 w bp bt bb pv #[.string x.nm, .int .i64 x.ev, .int .i64 x.kp, .int .i64 x.sh] l) : PrS w0 w bp bt bb pv #[.string x.nm, .int .i64 x.ev, .int .i64 x.kp, .int .i64 x.sh] l ∧ w.cell? ⟨bt, 0, none⟩ = some (.string x.nm) ∧ w.cell? ⟨bt, 1, none⟩ = some (.int .i64 x.ev) ∧ w.cell? ⟨bt, 2, none⟩ = some (.int .i64 x.kp) ∧ w.cell? ⟨bt, 3, none⟩ = some (.int .i64 x.sh) :=
  ⟨h, h.bt.at_ 0 rfl, h.bt.at_ 1 rfl, h.bt.at_ 2 rfl, h.bt.at_ 3 rfl⟩
end
theorem parts_new (w : World) (a b c d e f g h : ByteArray) : ∀ (j : Nat) x, [a, b, c, d, e, f, g, h][j]? = some x → (w.alloc (.cells #[.string a, .string b, .string c, .string d, .string e, .string f, .string g, .string h] 9)).cell? ⟨w.heap.size, 0 + j, none⟩ = some (.string x) := by
  intro j x hj
  have hk := cell_of_row (w.alloc (.cells #[.string a, .string b, .string c, .string d, .string e, .string f, .string g, .string h] 9)) w.heap.size j _ _ (0, 0) (heap_alloc_new w _)
  rw [Nat.zero_add, hk]
  match j, hj with
  | 0, hj => simp at hj; subst hj; rfl
  | 1, hj => simp at hj; subst hj; rfl
  | 2, hj => simp at hj; subst hj; rfl
  | 3, hj => simp at hj; subst hj; rfl
  | 4, hj => simp at hj; subst hj; rfl
  | 5, hj => simp at hj; subst hj; rfl
  | 6, hj => simp at hj; subst hj; rfl
  | 7, hj => simp at hj; subst hj; rfl
def tierJ (t : Ti) : List UInt8 := Lib.join [sTier, t.nm.toList, sEvery, Lib.itoa t.ev, sKeep, Lib.itoa t.kp, sShards, Lib.itoa t.sh] [32]
theorem tierJ_len {t : Ti} (h : t.Fine) : (tierJ t).length ≤ 400 := by
  have h1 := print_len (nm := t.nm.toList) (ts := [t]) h.nm (by simpa using h) (by simp)
  have e2 : (tierP t).length = (tierJ t).length + 1 := by
    unfold tierJ
    rw [← join_tier t, List.length_append, List.length_singleton]
  have e3 : (tierP t).length ≤ (printL t.nm.toList [t]).length := by
    unfold printL
    simp only [List.flatMap_cons, List.flatMap_nil, List.append_nil, List.length_append]
    omega
  omega
theorem joinT_any (t : Ti) (h : t.Fine) (w : World) :
    Calls Tryz.prog 25 #[.slice (some ⟨w.heap.size, 0, none⟩) 8 8, .string ⟨#[32]⟩]
      (w.alloc (.cells #[.string ⟨#[116, 105, 101, 114]⟩, .string t.nm, .string ⟨#[101, 118, 101, 114, 121]⟩, .string ⟨(Lib.itoa t.ev).toArray⟩, .string ⟨#[107, 101, 101, 112]⟩, .string ⟨(Lib.itoa t.kp).toArray⟩, .string ⟨#[115, 104, 97, 114, 100, 115]⟩, .string ⟨(Lib.itoa t.sh).toArray⟩] 9))
      fun e w' => e = .returned (.string ⟨(tierJ t).toArray⟩) ∧ Below (w.heap.size + 1) (w.alloc (.cells #[.string ⟨#[116, 105, 101, 114]⟩, .string t.nm, .string ⟨#[101, 118, 101, 114, 121]⟩, .string ⟨(Lib.itoa t.ev).toArray⟩, .string ⟨#[107, 101, 101, 112]⟩, .string ⟨(Lib.itoa t.kp).toArray⟩, .string ⟨#[115, 104, 97, 114, 100, 115]⟩, .string ⟨(Lib.itoa t.sh).toArray⟩] 9)) w' := by
  have hj : Lib.join (List.map (fun x : ByteArray => x.data.toList) [⟨#[116, 105, 101, 114]⟩, t.nm, ⟨#[101, 118, 101, 114, 121]⟩, ⟨(Lib.itoa t.ev).toArray⟩, ⟨#[107, 101, 101, 112]⟩, ⟨(Lib.itoa t.kp).toArray⟩, ⟨#[115, 104, 97, 114, 100, 115]⟩, ⟨(Lib.itoa t.sh).toArray⟩]) (⟨#[32]⟩ : ByteArray).data.toList = tierJ t := by
    unfold tierJ
    rw [ByteArray.toList_eq]; rfl
  have hl := tierJ_len h
  have X := Tryz.strings_Join w.heap.size 0 8 [⟨#[116, 105, 101, 114]⟩, t.nm, ⟨#[101, 118, 101, 114, 121]⟩, ⟨(Lib.itoa t.ev).toArray⟩, ⟨#[107, 101, 101, 112]⟩, ⟨(Lib.itoa t.kp).toArray⟩, ⟨#[115, 104, 97, 114, 100, 115]⟩, ⟨(Lib.itoa t.sh).toArray⟩] ⟨#[32]⟩ _ (parts_new w _ _ _ _ _ _ _ _) (by simp) (by simp) (by simp) (by rw [hj]; omega)
  rw [hj, World.size_alloc] at X
  exact X
set_option maxRecDepth 100000 in
set_option maxHeartbeats 4000000 in
theorem print_any (nm : ByteArray) (A : Option Addr) (n c : Nat) (ts : List Ti) (w : World) (hnm : nm.size ≤ maxLen) (h : Tis w A n ts) (hc : n ≤ c) (htab : Lib.TabIs Tryz.prog w "internal/strconv.uint64pow10" .u64 Lib.pow10Tab) :
    Calls Tryz.prog 9 #[polV nm A n c] w fun e w' => e = .returned (.tuple #[.string ⟨(printT nm.toList ts).toArray⟩, .int .i64 (checkR nm.toList ts).1]) ∧ Below w.heap.size w w' := by
  have b0 := Bx.new w 24 #[.string nm, .slice A n c]
  have hb0 : Below w.heap.size w (w.alloc (.cells #[.string nm, .slice A n c] 24)) := (Below.refl _ w).alloc (Nat.le_refl _) _
  have q0 := b0.at_ 0 rfl
  have q1 := b0.at_ 1 rfl
  have HC := Lib.hid (check_any nm A n c ts _ hnm (h.below hb0) hc)
  by_cases hz : (checkR nm.toList ts).1 = 0
  rotate_left
  · have HF := Lib.hid (show printT nm.toList ts = [] from if_neg hz)
    have hz' : ((checkR nm.toList ts).1 != 0) = true := bne_iff_ne.2 hz
    rw [HF.out]
    go_enter Tryz.func9, Tryz.ntmps9
    go_wp2_with (first
      | (go_at_call 7; refine HC.out.mono ?_; rintro e w1 ⟨rfl, hb1⟩))
    go_ret2
    exact ⟨rfl, hb0.trans (hb1.mono hb0.size)⟩
  have hck := checkR_zero hz
  obtain ⟨hv, hl1, hl5, hfine, _⟩ := check_fine hck
  have HFI := Lib.hid hfine
  have HPL := Lib.hid (fun j => print_len (ts := ts.take j) hv (fun t ht => hfine t (List.mem_of_mem_take ht)) (by rw [List.length_take]; omega))
  have hln := h.len
  have HTI := Lib.hid h
  have HTAB := Lib.hid (Lib.tabBelow_of_tabIs htab)
  have hns : nm.size ≤ 15 := by
    unfold validB at hv
    simp only [Bool.and_eq_true, decide_eq_true_eq] at hv
    rw [← len_toList]; exact hv.1.2
  rw [hck] at HC ⊢
  rw [show printT nm.toList ts = printL nm.toList ts from if_pos hz]
  clear hz hck hv hfine h htab
  go_enter Tryz.func9, Tryz.ntmps9
  go_upto_region 5 with (first
    | (go_at_call 7; refine HC.out.mono ?_; rintro e w1 ⟨rfl, hb1⟩))
  have BL := Bld.fresh w1
  have b1 := (b0.below hb1).alloc (.cells #[.pointer none, .slice none 0 0] 59)
  have hbw : Below w.heap.size w (w1.alloc (.cells #[.pointer none, .slice none 0 0] 59)) := (hb0.trans (hb1.mono hb0.size)).alloc (by have := hb1.size; simp at this; omega) _
  have hlt : w.heap.size < w1.heap.size := by have := hb1.size; simp at this; omega
  have hbb : w1.heap.size ≤ (w1.alloc (.cells #[.pointer none, .slice none 0 0] 59)).heap.size := by simp
  have p0 := b1.at_ 0 rfl
  obtain ⟨bb, hbbe⟩ : ∃ bb, bb = w1.heap.size := ⟨_, rfl⟩
  rw [← hbbe] at BL hlt hbb ⊢
  generalize w1.alloc (.cells #[.pointer none, .slice none 0 0] 59) = w2 at *
  clear hb1 hbbe b0 hb0 q0 q1 HC
  go_wp2_with (first
    | (go_at_call 23; refine (writeS_any bb bb [] _ _ BL (by rw [ByteArray.size_append, ByteArray.size_append]; show 0 + (7 + nm.size + 1) ≤ 1000000; omega) hbb).mono ?_; rintro e w3 ⟨rfl, BL3, hb3⟩
       have b3 := b1.belowB hb3 hlt
       have q1 := b3.at_ 1 rfl))
  have hb3w : Below w.heap.size w w3 := hbw.trans (hb3.mono (Nat.le_of_lt hlt))
  have hB3 : bb ≤ w3.heap.size := Nat.le_trans hbb hb3.size
  have BL0 : Bld w3 bb bb (printL nm.toList (ts.take 0)) := by
    have e : ([] : List UInt8) ++ ((⟨#[112, 111, 108, 105, 99, 121, 32]⟩ : ByteArray) ++ nm ++ ⟨#[10]⟩).toList = printL nm.toList (ts.take 0) := by
      rw [ByteArray.toList_eq, ByteArray.toList_eq]; simp [printL, sPolicy]
    rw [← e]; exact BL3
  clear BL BL3 hbw hbb p0 hb3 b1
  go_loopw [8, 9, 26] (fun _ _ i wr => ∃ j : Nat, j ≤ n ∧ i = .int .i64 j ∧ Bld wr bb bb (printL nm.toList (ts.take j)) ∧ Bx wr w.heap.size 24 #[.string nm, .slice A n c] ∧ Below w.heap.size w wr ∧ bb ≤ wr.heap.size) (fun _ _ i _ => n - (intOf i).toNat)
  case atStart => exact ⟨0, Nat.zero_le _, rfl, BL0, b3, hb3w, hB3⟩
  case round =>
    clear BL0 b3 hb3w hB3 q1
    obtain ⟨j, hj, rfl, BL, bp, hbr, hB⟩ := hrel
    have hpl := HPL.out j
    by_cases hlt2 : j < n
    · have K : j < ts.length := by omega
      have hok := HTI.out.ok _ (List.getElem_mem K)
      have HFX := Lib.hid (HFI.out _ (List.getElem_mem K))
      have HNX := Lib.hid (show printL nm.toList (ts.take (j + 1)) = printL nm.toList (ts.take j) ++ tierP (ts[j]'K) from by rw [List.take_succ_eq_append_getElem K, print_snoc])
      obtain ⟨b, off, rfl, hbl, X⟩ := (HTI.out.below hbr).get K
      obtain ⟨r0, r1, r2, r3⟩ := X
      generalize (ts[j]'K) = x at *
      have hbx := (Below.refl wr.heap.size wr).alloc (Nat.le_refl _) (.cells #[.string x.nm, .int .i64 x.ev, .int .i64 x.kp, .int .i64 x.sh] 49)
      have S0 : PrS w _ w.heap.size wr.heap.size bb _ #[.string x.nm, .int .i64 x.ev, .int .i64 x.kp, .int .i64 x.sh] _ := ⟨bp.below hbx, Bx.new wr 49 _, BL.below hbx, hbr.trans (hbx.mono hbr.size)⟩
      have g0 : (0 : Int) ≤ (j : Int) := by omega
      have g1 : (j : Int) < (n : Int) := by omega
      have S0D := S0.below (Below.refl _ _).drew
      have hB2 : bb ≤ (wr.alloc (.cells #[.string x.nm, .int .i64 x.ev, .int .i64 x.kp, .int .i64 x.sh] 49)).heap.size := by simp; omega
      obtain ⟨e1, e2⟩ := hok.ev
      obtain ⟨k1, k2⟩ := hok.kp
      obtain ⟨s1, s2⟩ := hok.sh
      clear BL bp hbx hbl
      go_upto_region 9 with fail
      generalize wr.alloc (.cells #[.string x.nm, .int .i64 x.ev, .int .i64 x.kp, .int .i64 x.sh] 49) = w4 at *
      generalize wr.heap.size = bt at *
      clear r0 r1 r2 r3 hbr
      generalize printL nm.toList (ts.take j) = l at *
      go_region_held3 (fun w' => PrS w w' w.heap.size bt bb #[.string nm, .slice (some ⟨b, off, none⟩) n c] #[.string x.nm, .int .i64 x.ev, .int .i64 x.kp, .int .i64 x.sh] l ∧ w'.cell? ⟨bt, 0, none⟩ = some (.string x.nm) ∧ w'.cell? ⟨bt, 1, none⟩ = some (.int .i64 x.ev) ∧ w'.cell? ⟨bt, 2, none⟩ = some (.int .i64 x.kp) ∧ w'.cell? ⟨bt, 3, none⟩ = some (.int .i64 x.sh))
        (first
          | assumption
          | exact S0D.full
          | (go_split_ands; exact PrS.full (by assumption))
          | (go_split_ands; exact PrS.full (PrS.below (by assumption) hbq))
          | (go_split_ands; exact PrS.full (PrS.below (by assumption) ((Below.refl _ _).alloc (Nat.le_refl _) _))))
        (first
          | (go_at_call 24; go_split_ands; refine (digits_any _ _ (by assumption) (by assumption) (HTAB.out _ (PrS.bel (by assumption)))).mono ?_; rintro e wq ⟨rfl, hbq⟩))
      all_goals
        go_split_ands
        have S1 : PrS w (wq.alloc (.cells #[.string ⟨#[116, 105, 101, 114]⟩, .string x.nm, .string ⟨#[101, 118, 101, 114, 121]⟩, .string ⟨(Lib.itoa x.ev).toArray⟩, .string ⟨#[107, 101, 101, 112]⟩, .string ⟨(Lib.itoa x.kp).toArray⟩, .string ⟨#[115, 104, 97, 114, 100, 115]⟩, .string ⟨(Lib.itoa x.sh).toArray⟩] 9)) w.heap.size bt bb #[.string nm, .slice (some ⟨b, off, none⟩) n c] #[.string x.nm, .int .i64 x.ev, .int .i64 x.kp, .int .i64 x.sh] l := by assumption
        have hqb : bb ≤ wq.heap.size := by have := (S1.bl); obtain ⟨_, v, hv, _⟩ | ⟨_, v, hv, _⟩ := this <;> (have := lt_of_block hv; simp at this; omega)
        have HJ := Lib.hid (joinT_any x HFX.out wq)
        have HS1 := Lib.hid S1
        have HTL := Lib.hid (tierJ_len HFX.out)
        have htl := tierJ_len HFX.out
        clear S0 S0D S1
        go_wp2_with (first
          | (go_at_call 25; refine HJ.out.mono ?_; rintro e w5 ⟨rfl, hb5⟩
             have S5 := Lib.hid (HS1.out.below (by simpa using hb5))
             have hb55 : bb ≤ w5.heap.size := by have := hb5.size; simp at this; omega)
          | (go_at_call 23; refine (writeS_any bb bb l _ _ S5.out.bl (by rw [ByteArray.size_append]; have := HTL.out; show _ + ((tierJ x).toArray.size + 1) ≤ 1000000; simp; omega) hb55).mono ?_; rintro e w6 ⟨rfl, BL6, hb6⟩
             have bp6 := S5.out.bp.belowB hb6 hlt
             have hbr6 := S5.out.bel.trans (hb6.mono (Nat.le_of_lt hlt))
             have hB6 := Nat.le_trans hb55 hb6.size))
        go_roundw
        case rel =>
          refine ⟨j + 1, by omega, by go_num, ?_, bp6, hbr6, hB6⟩
          rw [HNX.out]
          have e : ((⟨(tierJ x).toArray⟩ : ByteArray) ++ ⟨#[10]⟩).toList = tierP x := by
            rw [← join_tier x, ByteArray.toList_eq]; simp [tierJ]
          rw [e] at BL6
          exact BL6
        case measure => simp [intOf]; omega
    · have hje : j = n := by omega
      subst hje
      have hd : decide ((j : Int) < (j : Int)) = false := decide_eq_false (by omega)
      rw [List.take_of_length_le (by omega)] at BL hpl
      go_wp2_with (first
        | (go_at_call 26; refine (toS_any bb bb _ _ BL hB).mono ?_; rintro e w5 ⟨rfl, hb5⟩))
      go_ret2
      exact ⟨rfl, hbr.trans (hb5.mono (Nat.le_of_lt hlt))⟩
end Go.Proofs.YtnnamhomapagiaaGreatDoor
