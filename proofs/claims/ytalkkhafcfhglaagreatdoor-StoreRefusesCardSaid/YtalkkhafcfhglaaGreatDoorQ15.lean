/-
  Several texts in one: Tneed, StaA, Tcopy, WordPlainP, WordLineP.
-/
import Derived.Test.YtalkkhafcfhglaaGreatDoorQ14
set_option maxRecDepth 100000
set_option maxHeartbeats 4000000
namespace Go.Proofs.YtalkkhafcfhglaaGreatDoor
open Go.RowKit
structure Tv.Few (t : Tv) : Prop where
 few : ∀ i, i < t.tabs.length -> (t.tab i).length < 1000000
 need : ∀ i, i < t.tabs.length -> 0 <= Jhr (t.r.sh i) (t.tab i) /\ Jhr (t.r.sh i) (t.tab i) <= 1000000
theorem Jgy {t : Tv} (h : t.Few) : ∀ k, k <= t.tabs.length -> 0 <= Jbt t k /\ Jbt t k <= 1000000 * k
 | 0, _ => by simp [Jbt]
 | k + 1, hk => by
   have := Jgy h k (by omega);have := h.need k (by omega);simp only [Jbt];omega
theorem Jrv {F : Nat -> Prop} {g : Nat} {t : Tv} (w : World) (h : Jal w F g t) (h1 : 1 <= t.tabs.length) (hf : t.Few) :
  Calls Tryz.prog 48 #[.pointer (some ⟨g, 0, none⟩)] w fun e w' => e = .returned (.int .i64 t.need) /\ Below w.heap.size w w' := by
 obtain ⟨A, c, B, m, d, L, cl, ga, gm, hX, hR, hT⟩ := h.tabs;have HN := zI (Jmh w h h1);have h3 := h.few;obtain ⟨n, hn⟩ : ∃ n, n = t.tabs.length := ⟨_, rfl⟩;have HTN := zI (show t.need = Jbt t n from by rw [hn]; rfl);rw [<- hn] at hX hR hT h3;have HBD := zI (show ∀ k, k <= n -> 0 <= Jbt t k /\ Jbt t k <= 1000000 * k from fun k hk => Jgy hf k (by omega));have HFW := zI (show ∀ k, k < n -> (t.tab k).length < 1000000 from fun k hk => hf.few k (by omega));have HX := zI hX;have HR := zI hR;have HT := zI hT;have HTL := zI hR.ts.len;have s4 := hX.at_ 4 (v := .slice L n cl) rfl;clear h h1 hX hR hT hn hf;go_enter Tryz.func48, Tryz.ntmps48;go_wp2_with fail
 refine HN.out.mono ?_;rintro e w1 ⟨rfl, hw⟩;subst hw;go_wp2_with fail
 go_loopw [3, 13] (fun s i wr => ∃ k : Nat, k <= n /\ i = .int .i64 (k : Int) /\ s = .int .i64 (Jbt t k) /\ Below w.heap.size w wr) (fun _ i _ => n - (intOf i).toNat)
 case atStart => exact ⟨0, Nat.zero_le _, rfl, rfl, Below.refl _ _⟩
 case round =>
  obtain ⟨k, hk, rfl, rfl, hb⟩ := hrel;by_cases hlt : k < n
  · obtain ⟨bl, ol, rfl, _, hpl⟩ := Jru (HT.out.row.below hb) hlt
    have KA : k < t.r.ts.length := by rw [HTL.out]; exact hlt
    obtain ⟨ba, oa, rfl, _, _, _, _, t3⟩ := (HR.out.ts.below hb).get KA;have hsh := (HR.out.ts.ok _ (List.getElem_mem KA)).sh;have HND := zI (Jve (t.r.ts[k]).sh ((HT.out.tab k hlt).below hb) (HFW.out k hlt) hsh);have HS := zI (show Jbt t k + Jhr (t.r.ts[k]).sh (t.tab k) = Jbt t (k + 1) from by rw [<- Rch.sh_at KA]; rfl);have b1 := HBD.out k hk;have b2 := HBD.out (k + 1) hlt;rw [<- HS.out] at b2;have p2 := (HX.out.below hb).at_ 2 rfl;have hsd : Jbt t (k + 1) = Jbt t k + Jhr (t.r.ts[k]).sh (t.tab k) := HS.out.symm;obtain ⟨z, hz⟩ : ∃ z, z = Jbt t (k + 1) := ⟨_, rfl⟩;rw [<- hz] at hsd;have HZ := zI hz;have HSD := zI hsd;generalize Jhr (t.r.ts[k]'KA).sh (t.tab k) = y at *;generalize (t.r.ts[k]'KA).sh = sh at *;generalize Jbt t k = x at *;have HB := zI hb;clear hb hz hsd hsh HS;go_wp2_with fail
    refine HND.out.mono ?_;rintro e w2 ⟨rfl, hb2⟩;have HB2 := zI (HB.out.trans (hb2.mono HB.out.size));clear hb2;go_wp2_with fail
    go_roundw
    case rel => exact ⟨k + 1, by omega, by go_num, by rw [<- HZ.out, HSD.out], HB2.out⟩
    case measure => simp [intOf]; omega
  · have hke : k = n := by omega
    subst hke;have HB := zI hb;clear hb;go_wp2_with fail
    go_ret;exact ⟨by rw [HTN.out]; rfl, HB.out⟩
structure StAt (w : World) (F : Nat -> Prop) (g room : Nat) (t : Tv) : Prop where
 ex : ∃ gt FT, Bx w g 73 #[.int .i64 (room : Int), .pointer (some ⟨gt, 0, none⟩), .pointer none] /\ Jal w FT gt t /\ ¬ FT g /\ ∀ b, FT b -> F b
 g : F g
 ins : Ins F w
 room : room <= 4096
section
variable {w w' : World} {F G : Nat -> Prop} {g room : Nat} {t : Tv}
theorem StAt.chg (h : StAt w F g room t) (hc : Chg G w w') (hd : Dj F G) : StAt w' F g room t := by
 obtain ⟨gt, FT, hX, hT, hn, hs⟩ := h.ex;exact ⟨⟨gt, FT, hX.chg hc (hd _ h.g), hT.chg hc (fun b hb => hd b (hs b hb)), hn, hs⟩, h.g, h.ins.up hc.size, h.room⟩
theorem StAt.below (h : StAt w F g room t) (hb : Below w.heap.size w w') : StAt w' F g room t := by
 obtain ⟨gt, FT, hX, hT, hn, hs⟩ := h.ex;exact ⟨⟨gt, FT, hX.below hb, hT.below hb, hn, hs⟩, h.g, h.ins.up hb.size, h.room⟩
theorem StAt.sub (h : StAt w F g room t) (hs : ∀ b, F b -> G b) (hi : Ins G w) : StAt w G g room t := by
 obtain ⟨gt, FT, hX, hT, hn, hs'⟩ := h.ex;exact ⟨⟨gt, FT, hX, hT, hn, fun b hb => hs b (hs' b hb)⟩, hs _ h.g, hi, h.room⟩
theorem StAt.boxed {w1 : World} {gt : Nat} (h : Jal w1 (made w w1) gt t) (hs : w.heap.size <= w1.heap.size) (hr : room <= 4096) :
  StAt (w1.alloc (.cells #[.int .i64 (room : Int), .pointer (some ⟨gt, 0, none⟩), .pointer none] 73)) (made w (w1.alloc (.cells #[.int .i64 (room : Int), .pointer (some ⟨gt, 0, none⟩), .pointer none] 73))) w1.heap.size room t := by
 have hs4 : (w1.alloc (.cells #[.int .i64 (room : Int), .pointer (some ⟨gt, 0, none⟩), .pointer none] 73)).heap.size = w1.heap.size + 1 := by simp
 have hT := h.below ((Below.refl w1.heap.size w1).alloc (Nat.le_refl _) (.cells #[.int .i64 (room : Int), .pointer (some ⟨gt, 0, none⟩), .pointer none] 73));exact ⟨⟨gt, made w w1, Bx.new w1 _ _, hT, fun hb => Nat.lt_irrefl _ hb.2, fun b hb => ⟨hb.1, by have := hb.2; omega⟩⟩, ⟨hs, by omega⟩, Ins.made, hr⟩
end
theorem Jkv (room : Int) (w : World) (h : 0 <= room /\ room <= 4096) : Calls Tryz.prog 24 #[.int .i64 room] w fun e w' => e = .returned (.bool true) /\ w = w' := by
 have d1 : decide ((0 : Int) <= room) = true := decide_eq_true h.1;have d2 : decide (room <= (4096 : Int)) = true := decide_eq_true h.2;go_enter Tryz.func24, Tryz.ntmps24;go_wp2;go_ret;exact ⟨rfl, rfl⟩
theorem Jrw (a : Int) (w : World) (h : 0 <= a /\ a <= 1099511627776) : Calls Tryz.prog 47 #[.int .i64 a, .int .i64 0] w fun e w' => e = .returned (.int .i64 a) /\ w = w' := by
 have d1 : decide ((9223372036854775807 : Int) < a) = false := decide_eq_false (by omega);have d2 : ¬ ((9223372036854775807 : Int) < a) := by omega
 have e1 : IntKind.i64.wrap a = a := IntWalk.i64_in _ (by omega);go_enter Tryz.func47, Tryz.ntmps47;go_wp2;go_ret;exact ⟨rfl, rfl⟩
theorem Jod {F : Nat -> Prop} {g room : Nat} {t : Tv} (w : World) (h : StAt w F g room t) : Calls Tryz.prog 44 #[.pointer (some ⟨g, 0, none⟩)] w fun e w' => e = .returned (.bool false) /\ w = w' := by
 obtain ⟨gt, FT, hX, _, _, _⟩ := h.ex;have s1 := hX.at_ 1 (v := .pointer (some ⟨gt, 0, none⟩)) rfl;clear h hX;go_enter Tryz.func44, Tryz.ntmps44;go_wp2;go_ret;exact ⟨rfl, rfl⟩
theorem Jb9 {F : Nat -> Prop} {g room : Nat} {t : Tv} (w : World) (h : StAt w F g room t) : Calls Tryz.prog 13 #[.pointer (some ⟨g, 0, none⟩)] w fun e w' => e = .returned (.int .i64 (room : Int)) /\ w = w' := by
 obtain ⟨gt, FT, hX, _, _, _⟩ := h.ex;have s1 := hX.at_ 0 (v := .int .i64 (room : Int)) rfl;clear h hX;go_enter Tryz.func13, Tryz.ntmps13;go_wp2;go_ret;exact ⟨rfl, rfl⟩
theorem Jtn (w : World) : Calls Tryz.prog 53 #[.pointer none, .pointer none] w fun e w' => e = .returned (.bool true) /\ w = w' := by
 go_enter Tryz.func53, Tryz.ntmps53;go_wp2;go_ret;exact ⟨rfl, rfl⟩
theorem Jkw (w : World) : Calls Tryz.prog 49 #[.pointer none] w fun e w' => e = .returned (.int .i64 0) /\ w = w' := by
 go_enter Tryz.func49, Tryz.ntmps49;go_wp2;go_ret;exact ⟨rfl, rfl⟩
theorem Joe (w : World) : Calls Tryz.prog 142 #[.pointer none] w fun e w' => e = .returned (.pointer none) /\ w = w' := by
 go_enter Tryz.func142, Tryz.ntmps142;go_wp2;go_ret;exact ⟨rfl, rfl⟩
theorem Jv3 (p q : Value) (w : World) : Calls Tryz.prog 51 #[.pointer none, p, q] w fun e w' => e = .returned (.tuple #[]) /\ w = w' := by
 go_enter Tryz.func51, Tryz.ntmps51;go_wp2;exact bodyPost_ret (results_none rfl _ _ _) rfl ⟨rfl, rfl⟩
theorem Jto {t : Tv} {n : Nat} (h : n = t.tabs.length) : (List.range n).map t.tab = t.tabs := by
 apply List.ext_getElem
 · simp [h]
 · intro i h1 h2
   simp [Tv.tab, h2]
structure J41 (w w' : World) (A : Option Addr) (n c : Nat) (B : Option Addr) (m : Nat) (r : Rch) : Prop where
 at_ : Jef w' A n B m r
 inA : AIn (made w w') A
 inB : AIn (made w w') B
 cap : n <= c
 bel : Below w.heap.size w w'
theorem J26 (now : Int) (nm : ByteArray) (A : Option Addr) (n c : Nat) (ts : List Ti) (B : Option Addr) (m d : Nat) (fs : List Int) (w : World) (hA : Tis w A n ts) (hB : Ints w .i64 B m fs) (hn : n <= 1000000) (hm : m <= 1000000) (hnow : -9223372036854775808 <= now /\ now <= 9223372036854775807) (W : World) (hW : Below w.heap.size w W) :
  Calls Tryz.prog 57 #[polV nm A n c, .int .i64 now, .slice B m d] W fun e w' => ∃ A' c' B' d', e = .returned (rchV now nm A' n c' B' m d') /\ J41 w w' A' n c' B' m ⟨now, nm, ts, fs⟩ := by
 refine (Jje now nm A n c ts B m d fs W (hA.below hW) (hB.below hW) hn hm hnow).mono ?_;rintro e w' ⟨A', c', B', d', rfl, h1, h2, h3, h4⟩;exact ⟨A', c', B', d', rfl, h1, fun a e => Jc9 (Jcl h2 a e) hW.size, fun a e => Jc9 (Jcl h3 a e) hW.size, Jrt h2, hW.trans (h4.mono hW.size)⟩
theorem Jmj {F : Nat -> Prop} {g : Nat} {t : Tv} (w : World) (h : Jal w F g t) :
  Calls Tryz.prog 45 #[.pointer (some ⟨g, 0, none⟩)] w fun e w' => ∃ g', e = .returned (.pointer (some ⟨g', 0, none⟩)) /\ Jal w' (made w w') g' t /\ Below w.heap.size w w' := by
 obtain ⟨A, c, B, m, d, L, cl, ga, gm, hX, hR, hc, hm, hFA, hFB, hT⟩ := h.ex;obtain ⟨n, hn⟩ : ∃ n, n = t.tabs.length := ⟨_, rfl⟩;have hn3 : n <= 1000 := by rw [hn]; exact h.few
 have HNM := zI h.nm;rw [<- hn] at hX hR hc hT;have HN := zI hn;have HRO := zI (J26 t.r.now t.r.nm A n c t.r.ts B m d t.r.fs w hR.ts hR.fs (by omega) (by omega) hR.now);have HX := zI hX;have HT := zI hT;have s0 := hX.at_ 0 rfl;have s1 := hX.at_ 1 rfl;have s2 := hX.at_ 2 rfl;have s3 := hX.at_ 3 rfl;have s4 := hX.at_ 4 rfl;clear h hn hX hR hT hFA hFB;go_enter Tryz.func45, Tryz.ntmps45;have HD := zI ((Below.refl w.heap.size w).drew);have HXD := zI (HX.out.below HD.out);go_wp2_with fail
 go_region_held3 (fun w' => w'.cell? ⟨g, 0, none⟩ = some (.int .i64 t.r.now) /\ w'.cell? ⟨g, 1, none⟩ = some (.string t.r.nm) /\ w'.cell? ⟨g, 2, none⟩ = some (.slice A n c) /\ w'.cell? ⟨g, 3, none⟩ = some (.slice B m d) /\ Below w.heap.size w w')
  (first
    | exact ⟨HXD.out.at_ 0 rfl, HXD.out.at_ 1 rfl, HXD.out.at_ 2 rfl, HXD.out.at_ 3 rfl, HD.out⟩
    | (go_split_ands
       have hbn := hN4.bel;exact ⟨(HX.out.below hbn).at_ 0 rfl, (HX.out.below hbn).at_ 1 rfl, (HX.out.below hbn).at_ 2 rfl, (HX.out.below hbn).at_ 3 rfl, hbn⟩)
    | (go_split_ands
       have hbn := Below.alloc hN4.bel (Below.size hN4.bel) (.cells #[.int .i64 t.r.now, .string t.r.nm, .slice A' n c', .slice B' m d', .slice none 0 0] 125);exact ⟨(HX.out.below hbn).at_ 0 rfl, (HX.out.below hbn).at_ 1 rfl, (HX.out.below hbn).at_ 2 rfl, (HX.out.below hbn).at_ 3 rfl, hbn⟩))
  ((go_at_call 57; go_split_ands; refine (HRO.out _ (by assumption)).mono ?_; rintro e w4 ⟨A', c', B', d', rfl, hN4⟩))
 have HN4 := zI hN4;have HX5 := zI (HX.out.below (hN4.bel.alloc hN4.bel.size (.cells #[.int .i64 t.r.now, .string t.r.nm, .slice A' n c', .slice B' m d', .slice none 0 0] 125)));have HBX := zI (Bx.new w4 125 #[.int .i64 t.r.now, .string t.r.nm, .slice A' n c', .slice B' m d', .slice none 0 0]);have HBA := zI ((Below.refl w4.heap.size w4).alloc (Nat.le_refl _) (.cells #[.int .i64 t.r.now, .string t.r.nm, .slice A' n c', .slice B' m d', .slice none 0 0] 125));have s5 := (HX.out.below hN4.bel).at_ 4 rfl;have hlt := (HX.out.below hN4.bel).lt;clear hN4 s0 s1 s2 s3 s4;go_wp2_with fail
 go_loopw [31] (fun i wr => ∃ k : Nat, k <= n /\ i = .int .i64 (k : Int) /\ TNew w4 wr t.r.now t.r.nm (.slice A' n c') (.slice B' m d') t.r.ts t.tab k) (fun i _ => n - (intOf i).toNat)
 case atStart => exact ⟨0, Nat.zero_le _, rfl, ⟨.slice none 0 0, fun _ => 0, fun _ => 0, HBX.out, ⟨World.ownsRow_nil _ _ _ _, by omega, by omega, by omega⟩⟩, HBA.out⟩
 case round =>
  obtain ⟨q, hq, rfl, hT⟩ := hrel;by_cases hlt2 : q < n
  · obtain ⟨⟨v, gb, gn, hX, hTB⟩, hbel⟩ := hT
    have hbw := HN4.out.bel.trans (hbel.mono HN4.out.bel.size);have HTS := zI (fun W (hW : Below wr.heap.size wr W) => Joa ((HT.out.tab q hlt2).below (hbw.trans (hW.mono hbw.size))));obtain ⟨bl, ol, rfl, hbl, hpl⟩ := Jru (HT.out.row.below hbw) hlt2;obtain ⟨Lv, cv, rfl, _⟩ := Jaq hTB.row;have HX5 := zI hX;have HT5 := zI hTB;have HB5 := zI hbel;have HEV := zI (show t.r.ev q = evF t.r.ts q from rfl);rw [HEV.out] at HTS;have hdr := (Below.refl wr.heap.size wr).drew;have HXD := zI (HX5.out.below hdr);have HTD := zI (HT5.out.below hdr);have HBD := zI (HB5.out.trans (hdr.mono HB5.out.size));have HDR := zI hdr;have HQ := zI (show q + 1 <= 1000000 from by omega);have p4 := HX5.out.at_ 4 rfl;clear hX hTB hbel hbw hdr;generalize t.tab = tab at *;go_upto_region 7 with fail
    go_region_law (first
     | (refine Jvx (by rfl) _ _ (by rfl) HT7.out.row (by rfl) (some ⟨w6.heap.size, 0, none⟩) 1 1 [.pointer (some ⟨g6, 0, none⟩)] (by rfl) rfl HSL.out HON.out HQ.out HB7.out.size ?_
        intro A7 c7 w7 ho7 hg7;have X8 := zI (HX7.out.grown hg7 (HX7.out.not_row HT7.out.row (by decide)));have d8 := X8.out.at_ 4 rfl;have f8 := X8.out.free 4)
     | (go_simp
        go_at_call 90
        refine (HTS.out _ HDR.out).mono ?_;rintro e w6 ⟨g6, m6, rfl, ht6, hb6, hg6, hm6⟩;have hb7 := hb6.alloc hb6.size (.cells #[.pointer (some ⟨g6, 0, none⟩)] 126);have HX6 := zI (HXD.out.below hb6);have HX7 := zI (HXD.out.below hb7);have HT7 := zI (HTD.out.below hb7);have HB7 := zI (HBD.out.trans (hb7.mono HBD.out.size));have HTA := zI (ht6.below ((Below.refl w6.heap.size w6).alloc (Nat.le_refl _) (.cells #[.pointer (some ⟨g6, 0, none⟩)] 126)));have HBW := zI hb7;have HSL := zI (Sl.new w6 126 w6.heap.size [.pointer (some ⟨g6, 0, none⟩)] #[.pointer (some ⟨g6, 0, none⟩)] rfl rfl);have HON := zI (show ∀ u ∈ [Value.pointer (some ⟨g6, 0, none⟩)], u.oneCell' = true from by intro u hu; rw [List.mem_singleton.1 hu]; rfl);have HGM := zI (And.intro hg6 hm6);have d6 := HX6.out.at_ 4 rfl;have d7 := HX7.out.at_ 4 rfl;clear ht6 hb6 hb7 hg6 hm6))
    all_goals
     have hS9 : TNew w4 (w7.setCell ⟨w4.heap.size, 4, none⟩ (.slice A7 (q + 1) c7)) t.r.now t.r.nm (.slice A' n c') (.slice B' m d') t.r.ts tab (q + 1) :=
      TNew.next HX5.out HT5.out HB5.out HTA.out (((Below.refl _ _).drew).trans (HBW.out.mono (by simp))) HGM.out.1 HGM.out.2 ho7 hg7
     go_wp2_with fail
     go_roundw
     case rel => exact ⟨q + 1, by omega, by go_num, hS9⟩
     case measure => simp [intOf]; omega
  · have hqe : q = n := by omega
    subst hqe;have HB9 := zI (HN4.out.bel.trans (hT.bel.mono HN4.out.bel.size))
    have HE := zI (show Jal wr (made w wr) w4.heap.size t from by
     have := TNew.done (w := w) (r := t.r) hT HN4.out.at_ HN4.out.inA HN4.out.inB HN4.out.cap hm HN4.out.bel.size hn3 HNM.out
     rwa [show (List.range q).map t.tab = t.tabs from Jto HN.out] at this)
    clear hT;go_wp2_with fail
    go_ret;exact ⟨_, rfl, HE.out, HB9.out⟩
end Go.Proofs.YtalkkhafcfhglaaGreatDoor
namespace Go.Proofs.YtalkkhafcfhglaaGreatDoor.Py
open Go.RowKit
structure Wd where
 text : List UInt8
 line : Int
 col : Int
def Jcq (c : Int) : Bool := decide (c = 32 \/ c = 9)
def Jfs (c : Int) : Bool := decide (32 < c /\ c < 127)
def okB (c : UInt8) : Bool := Jcq c.toNat || Jfs c.toNat
def Ja8 (c : UInt8) : List Wd -> List Wd
 | [] => []
 | [x] => [⟨x.text ++ [c], x.line, x.col⟩]
 | x :: y :: r => x :: Ja8 c (y :: r)
structure LSt where
 out : List Wd
 op : Bool
 i : Nat
def Jdn (n : Int) (s : LSt) (c : UInt8) : LSt :=
 if Jcq c.toNat = true then ⟨s.out, false, s.i + 1⟩ else if s.op = true then ⟨Ja8 c s.out, true, s.i + 1⟩ else ⟨s.out ++ [⟨[c], n, (s.i : Int) + 1⟩], true, s.i + 1⟩
def lst (n : Int) (l : List UInt8) : LSt := l.foldl (Jdn n) ⟨[], false, 0⟩
theorem Jc2 (n : Int) (l : List UInt8) (c : UInt8) : lst n (l ++ [c]) = Jdn n (lst n l) c := by simp [lst, List.foldl_append]
theorem J5p (n : Int) (l : List UInt8) : (lst n l).i = l.length := by
 obtain ⟨m, rfl⟩ : ∃ m : List UInt8, l = m.reverse := ⟨l.reverse, by simp⟩
 induction m with
 | nil => rfl
 | cons c r ih =>
   rw [List.reverse_cons, Jc2];unfold Jdn;split
   · simp only [ih]; simp
   · split <;> (simp only [ih]; simp)
theorem Jjh (c : UInt8) : ∀ l, (Ja8 c l).length = l.length
 | [] => rfl
 | [_] => rfl
 | x :: y :: r => by show _ + 1 = _; rw [Jjh c (y :: r)]; rfl
theorem Je5 (c : UInt8) (x : Wd) : ∀ l, Ja8 c (l ++ [x]) = l ++ [⟨x.text ++ [c], x.line, x.col⟩]
 | [] => rfl
 | [y] => rfl
 | y :: z :: r => by
   show y :: Ja8 c (z :: r ++ [x]) = _;rw [Je5 c x (z :: r)]; rfl
theorem Jp9 (n : Int) (l : List UInt8) : (lst n l).out.length <= l.length := by
 obtain ⟨m, rfl⟩ : ∃ m : List UInt8, l = m.reverse := ⟨l.reverse, by simp⟩
 induction m with
 | nil => simp [lst]
 | cons c r ih =>
   rw [List.reverse_cons, Jc2];unfold Jdn;simp only [List.length_append, List.length_cons, List.length_nil];split
   · simp only; omega
   · split
     · simp only [Jjh]; omega
     · simp only [List.length_append, List.length_cons, List.length_nil]; omega
theorem Jji {c : UInt8} {y : Wd} : ∀ {l : List Wd}, y ∈ Ja8 c l -> y ∈ l \/ ∃ x ∈ l, y = ⟨x.text ++ [c], x.line, x.col⟩
 | [], h => by simp [Ja8] at h
 | [x], h => by simp [Ja8] at h; exact .inr ⟨x, by simp, h⟩
 | x :: z :: r, h => by
   rcases List.mem_cons.1 (show y ∈ x :: Ja8 c (z :: r) from h) with h | h
   · exact .inl (by simp [h])
   · rcases Jji h with h | ⟨q, hq, e⟩
     · exact .inl (List.mem_cons_of_mem _ h)
     · exact .inr ⟨q, List.mem_cons_of_mem _ hq, e⟩
theorem Jrx (n : Int) (l : List UInt8) : ∀ x ∈ (lst n l).out, x.text ≠ [] /\ x.line = n := by
 obtain ⟨m, rfl⟩ : ∃ m : List UInt8, l = m.reverse := ⟨l.reverse, by simp⟩
 induction m with
 | nil => simp [lst]
 | cons c r ih =>
   rw [List.reverse_cons, Jc2];unfold Jdn;split
   · exact ih
   · split
     · intro y hy
       rcases Jji hy with h | ⟨q, hq, rfl⟩
       · exact ih y h
       · exact ⟨by simp, (ih q hq).2⟩
     · intro y hy
       rcases List.mem_append.1 hy with h | h
       · exact ih y h
       · simp at h; subst h; exact ⟨by simp, rfl⟩
def Ja2 (x : Wd) : Bool := x.text.head? != some 35
def Jae (n : Int) (l : List UInt8) : List Wd := (lst n l).out.takeWhile Ja2
theorem Je6 {α : Type} (p : α -> Bool) : ∀ (l : List α) (j : Nat) (h : j < l.length), (l.take j).all p = true -> p l[j] = false -> l.takeWhile p = l.take j
 | [], j, h, _, _ => by simp at h
 | x :: r, 0, _, _, hp => by simp at hp; simp [hp]
 | x :: r, j + 1, h, ha, hp => by
   simp at ha hp h;rw [List.take_succ_cons, List.takeWhile_cons, if_pos ha.1, Je6 p r j h (by simpa using ha.2) hp]
theorem Jgz {α : Type} (p : α -> Bool) (l : List α) (h : l.all p = true) : l.takeWhile p = l := by
 induction l with
 | nil => rfl
 | cons x r ih => simp at h; rw [List.takeWhile_cons, if_pos h.1, ih (by simpa using h.2)]
theorem Jg0 (c : Int) (w : World) : Calls Tryz.prog 234 #[.int .u8 c] w fun e w' => e = .returned (.bool (Jcq c)) /\ w = w' := by
 by_cases a : c = 32 <;> by_cases b : c = 9
 all_goals
  have HB := zI (show Jcq c = decide (c = 32 \/ c = 9) from rfl);go_enter Tryz.func234, Tryz.ntmps234;go_wp2;go_ret;refine ⟨Jag ?_, rfl⟩;rw [show Jcq _ = decide (_ \/ _) from rfl];simp [a, b]
theorem Jeg (c : Int) (w : World) : Calls Tryz.prog 235 #[.int .u8 c] w fun e w' => e = .returned (.bool (Jfs c)) /\ w = w' := by
 by_cases a : 32 < c <;> by_cases b : c < 127
 all_goals
  go_enter Tryz.func235, Tryz.ntmps235;go_wp2;go_ret;refine ⟨Jag ?_, rfl⟩;rw [show Jfs _ = decide (_ /\ _) from rfl];simp [a, b]
def Jg1 (x : Wd) : List Value := [.string ⟨x.text.toArray⟩, .int .i64 x.line, .int .i64 x.col]
def wrow (l : List Wd) : List Value := l.flatMap Jg1
theorem Jeh (l : List Wd) : (wrow l).length = l.length * 3 := by
 induction l with
 | nil => rfl
 | cons x r ih => simp [wrow, Jg1] at ih ⊢; omega
theorem Jch (l k : List Wd) : wrow (l ++ k) = wrow l ++ wrow k := by simp [wrow]
theorem Jg2 (l : List Wd) (j : Nat) (h : j < l.length) : (wrow l)[j * 3]? = some (.string ⟨(l[j]).text.toArray⟩) /\ (wrow l)[j * 3 + 1]? = some (.int .i64 l[j].line) /\ (wrow l)[j * 3 + 2]? = some (.int .i64 l[j].col) := by
 induction l generalizing j with
 | nil => simp at h
 | cons x r ih =>
   cases j with
   | zero => exact ⟨rfl, rfl, rfl⟩
   | succ j =>
     have h1 := ih j (by simpa using h);have e : wrow (x :: r) = Jg1 x ++ wrow r := rfl
     have g : ∀ i, (Jg1 x ++ wrow r)[3 + i]? = (wrow r)[i]? := fun i => by
      rw [List.getElem?_append_right (by simp [Jg1])];simp [Jg1]
     rw [e, show (j + 1) * 3 = 3 + j * 3 by omega, show 3 + j * 3 + 1 = 3 + (j * 3 + 1) by omega, show 3 + j * 3 + 2 = 3 + (j * 3 + 2) by omega, g, g, g]
     simpa using h1
theorem J0f (p : List Wd) (x : Wd) (t : List UInt8) : (wrow (p ++ [x])).set (p.length * 3) (.string ⟨t.toArray⟩) = wrow (p ++ [⟨t, x.line, x.col⟩]) := by
 rw [Jch, Jch, <- Jeh, List.set_append_right _ _ (Nat.le_refl _)];simp [wrow, Jg1]
theorem Jft (s : ByteArray) (b e : Nat) : s.extract b e = ⟨((s.toList.take e).drop b).toArray⟩ := by
 apply ByteArray.ext;apply Array.ext';rw [ByteArray.toList_eq];simp [List.drop_take]
def Jv4 (n : Int) (l : List UInt8) (bg : Int) : Prop := ((lst n l).op = false /\ bg = -1) \/ ((lst n l).op = true /\ ∃ (p : List Wd) (x : Wd), (lst n l).out = p ++ [x] /\ 0 <= bg /\ bg.toNat < l.length /\ x.text = l.drop bg.toNat)
theorem Jv5 (n : Int) : Jv4 n [] (-1) := .inl ⟨rfl, rfl⟩
theorem Jqa {n : Int} {l : List UInt8} {c : UInt8} (h : Jcq c.toNat = true) : Jv4 n (l ++ [c]) (-1) /\ (lst n (l ++ [c])).out = (lst n l).out := by
 have e : lst n (l ++ [c]) = ⟨(lst n l).out, false, (lst n l).i + 1⟩ := by rw [Jc2]; unfold Jdn; rw [if_pos h]
 exact ⟨.inl ⟨by rw [e], rfl⟩, by rw [e]⟩
theorem Jv6 {n : Int} {l : List UInt8} {c : UInt8} (h : Jcq c.toNat = false) (ho : (lst n l).op = false) : Jv4 n (l ++ [c]) l.length /\ (lst n (l ++ [c])).out = (lst n l).out ++ [⟨[c], n, (l.length : Int) + 1⟩] := by
 have e : lst n (l ++ [c]) = ⟨(lst n l).out ++ [⟨[c], n, (l.length : Int) + 1⟩], true, (lst n l).i + 1⟩ := by
  rw [Jc2]; unfold Jdn; rw [if_neg (by rw [h]; decide), if_neg (by rw [ho]; decide), J5p]
 refine ⟨.inr ⟨by rw [e], (lst n l).out, ⟨[c], n, (l.length : Int) + 1⟩, by rw [e], by omega, by simp, ?_⟩, by rw [e]⟩
 simp
theorem Jv7 {n : Int} {l : List UInt8} {c : UInt8} {bg : Int} (h : Jcq c.toNat = false) {p : List Wd} {x : Wd} (ho : (lst n l).op = true) (h1 : (lst n l).out = p ++ [x]) (h2 : 0 <= bg) (h3 : bg.toNat < l.length) (h4 : x.text = l.drop bg.toNat) :
  Jv4 n (l ++ [c]) bg /\ (lst n (l ++ [c])).out = p ++ [⟨(l ++ [c]).drop bg.toNat, x.line, x.col⟩] := by
 have e : lst n (l ++ [c]) = ⟨p ++ [⟨x.text ++ [c], x.line, x.col⟩], true, (lst n l).i + 1⟩ := by
  rw [Jc2]; unfold Jdn; rw [if_neg (by rw [h]; decide), if_pos ho, h1, Je5]
 have e2 : x.text ++ [c] = (l ++ [c]).drop bg.toNat := by rw [h4, List.drop_append_of_le_length (by omega)]
 rw [e2] at e;exact ⟨.inr ⟨by rw [e], p, _, by rw [e], h2, by simp; omega, rfl⟩, by rw [e]⟩
theorem Jqb (s : ByteArray) (k : Nat) (h : k < s.size) : s.extract k (k + 1) = ⟨[s[k]].toArray⟩ := by
 rw [Jft, Jb2 s k h, List.drop_append_of_le_length (by rw [List.length_take, Jab]; omega), List.drop_of_length_le (by rw [List.length_take]; omega)]; rfl
theorem own_slice {w : World} {base : Nat} {e : TypeId} {size : Nat} {v : Value} {n : Nat} {xs : List Value} (h : w.ownsRow base e size v n xs) : ∃ A c, v = .slice A n c /\ n <= c /\ Sl w A xs := by
 rcases h.2 with ⟨rfl, he⟩ | ⟨g, cap, cur, rfl, _, hg, hc, _, _, ht⟩
 · subst he
   have : xs = [] := List.eq_nil_of_length_eq_zero (by rw [h.1]; simp);subst this;exact ⟨none, 0, rfl, Nat.le_refl _, Sl.nil _ _⟩
 · exact ⟨some ⟨g, 0, none⟩, cap, rfl, hc, ⟨fun _ => ⟨g, 0, rfl, lt_of_block hg, fun j u hu => by
    have hj : j < n * size := by rw [<- h.1]; exact (List.getElem?_eq_some_iff.1 hu).1
    rw [Nat.zero_add, h.cellAt j hj]; exact hu⟩⟩⟩
theorem Jof (x : Wd) (tb : ByteArray) (ht : tb = ⟨x.text.toArray⟩) (h : x.text ≠ []) : ∃ hp : 0 < tb.size, Ja2 x = !(((tb[0]'hp).toNat : Int) == 35) := by
 subst ht;obtain ⟨t, ln, cl⟩ := x
 match t, h with
 | c :: r, _ =>
   refine ⟨by simp [ByteArray.size], ?_⟩;have e : (⟨(c :: r).toArray⟩ : ByteArray)[0]'(by simp [ByteArray.size]) = c := rfl;rw [e];unfold Ja2;simp only [List.head?_cons];rw [Bool.eq_iff_iff]
   simp
   constructor
   · intro h1 h2; exact h1 (UInt8.toNat_inj.1 (by have : (35 : UInt8).toNat = 35 := rfl; omega))
   · rintro h1 rfl; exact h1 (by decide)
theorem Jtp {w : World} {base : Nat} {e : TypeId} {size : Nat} {A : Option Addr} {n c j : Nat} {xs : List Value} (h : w.ownsRow base e size (.slice A n c) n xs) (hj : j <= n) (hA : A ≠ none) : w.ownsRow base e size (.slice A j c) j (xs.take (j * size)) := by
 have hjs : j * size <= n * size := Nat.mul_le_mul_right _ hj;refine ⟨by rw [List.length_take, h.1]; omega, ?_⟩;rcases h.2 with ⟨e1, _⟩ | ⟨g, cap, cur, e1, hb, hg, hn, hm, hs, ht⟩
 · injection e1 with e1; exact absurd e1 hA
 · injection e1 with e1 _ e3
   subst e1 e3;exact .inr ⟨g, c, cur, rfl, hb, hg, by omega, hm, hs, by rw [<- ht, List.take_take, Nat.min_eq_left hjs]⟩
theorem Jv8 (l : List Wd) (j : Nat) (h : j <= l.length) : (wrow l).take (j * 3) = wrow (l.take j) := by
 have e : wrow l = wrow (l.take j) ++ wrow (l.drop j) := by rw [<- Jch, List.take_append_drop]
 have hl : (wrow (l.take j)).length = j * 3 := by rw [Jeh, List.length_take, Nat.min_eq_left h]
 rw [e, List.take_append_of_le_length (by omega), <- hl, List.take_length]
theorem own_below {w w' : World} {base : Nat} {e : TypeId} {size : Nat} {v : Value} {n : Nat} {xs : List Value} (h : w.ownsRow base e size v n xs) (hb : Below w.heap.size w w') : w'.ownsRow base e size v n xs :=
 h.kept ⟨hb.os, hb.tape, hb.output, hb.size, fun i hi _ => hb.block i hi⟩ (Classical.em (v.ownBlock = none))
theorem Jv9 {p : Wd -> Bool} {l : List Wd} {j : Nat} (h : j < l.length) (ha : (l.take j).all p = true) (hp : p l[j] = true) : (l.take (j + 1)).all p = true := by
 rw [List.take_succ_eq_append_getElem h, List.all_append, ha]; simp [hp]
def J0g (n : Int) (l : List UInt8) (w : World) (e : Ending) (w' : World) : Prop :=
 (l.all okB = true /\ ∃ v, e = .returned (.tuple #[v, .bool true]) /\ w'.ownsRow w.heap.size 208 3 v (Jae n l).length (wrow (Jae n l)) /\ Below w.heap.size w w') \/
 (l.all okB = false /\ e = .returned (.tuple #[.slice none 0 0, .bool false]) /\ Below w.heap.size w w')
theorem Jjj : (Tryz.prog.info? 208).map (fun i => (i.zero, i.size, i.bytes)) = some (some (.agg #[.string ByteArray.empty, .int .i64 0, .int .i64 0]), 3, 32) := by kernel_rfl
theorem J42 {s : ByteArray} {k : Nat} (h : k < s.size) (hb : okB s[k] = false) : s.toList.all okB = false := by
 cases hh : s.toList.all okB
 · rfl
 · rw [List.all_eq_true] at hh
   have := hh _ (List.mem_of_getElem? (Jfk s k h)); rw [hb] at this; cases this
theorem J27 {s : ByteArray} {k : Nat} (h : k < s.size) (ha : (s.toList.take k).all okB = true) (hb : okB s[k] = true) : (s.toList.take (k + 1)).all okB = true := by
 rw [Jb2 s k h, List.all_append, ha]; simp [hb]
theorem J0h (s : ByteArray) (n : Int) (w : World) (hs : s.size <= 1000000) (_hn : 0 <= n /\ n <= 1000000) :
  Calls Tryz.prog 178 #[.string s, .int .i64 n] w (J0g n s.toList w) := by
 obtain ⟨i0, hi, hz0, hz1, hz2⟩ := info_parts Jjj;go_enter Tryz.func178, Tryz.ntmps178;go_wp2
 go_loopw [6, 7, 14] (fun v b i wr => ∃ (k : Nat) (bg : Int), k <= s.size /\ i = .int .i64 k /\ b = .int .i64 bg /\ Jv4 n (s.toList.take k) bg /\ (s.toList.take k).all okB = true /\
   wr.ownsRow w.heap.size 208 3 v (lst n (s.toList.take k)).out.length (wrow (lst n (s.toList.take k)).out) /\ Below w.heap.size w wr) (fun _ _ i _ => s.size - (intOf i).toNat)
 case atStart => exact ⟨0, -1, Nat.zero_le _, rfl, rfl, Jv5 n, rfl, World.ownsRow_nil _ _ _ _, Below.refl _ _⟩
 case round =>
  obtain ⟨k, bg, hk, rfl, rfl, hbg, hall, hown, hbel⟩ := hrel;have HA := zI hall;have HBG := zI hbg;clear hall hbg;by_cases hlt : k < s.size
  · have hts := zI (Jb2 s k hlt)
    have hlen := Jp9 n (s.toList.take k);have htl : (s.toList.take k).length = k := by rw [List.length_take, Jab]; omega
    rw [htl] at hlen;have HTL := zI htl;clear htl;cases hok : okB s[k]
    · have HF := zI (J42 hlt hok)
      unfold okB at hok;rw [Bool.or_eq_false_iff] at hok;obtain ⟨o1, o2⟩ := hok
      go_wp2_with (first
       | (go_at_call 234; refine (Jg0 _ _).mono ?_; rintro e w' ⟨rfl, rfl⟩)
       | (go_at_call 235; refine (Jeg _ _).mono ?_; rintro e w' ⟨rfl, rfl⟩))
      go_ret2;exact .inr ⟨HF.out, rfl, hbel⟩
    · have HN := zI (J27 hlt HA.out hok)
      cases hb : Jcq s[k].toNat
      · have o2 : Jfs s[k].toNat = true := by unfold okB at hok; rw [hb] at hok; simpa using hok
        clear hok;rcases HBG.out with ⟨h1, h2⟩ | ⟨h1, p, x, h2, h3, h4, h5⟩
        · have HX := zI (Jv6 (n := n) hb h1)
          subst h2;clear h1
          go_wp2_with (first
           | (go_at_call 234; refine (Jg0 _ _).mono ?_; rintro e w' ⟨rfl, rfl⟩)
           | (go_at_call 235; refine (Jeg _ _).mono ?_; rintro e w' ⟨rfl, rfl⟩)
           | (at_builtin; refine wpList_append_own _ rfl _ _ 282 rfl w.heap.size 208 i0 (.agg #[.string ByteArray.empty, .int .i64 0, .int .i64 0]) 3 32 Tryz.underlying282 hi hz0 hz1 hz2 rfl (by decide) _ _ _ rfl (hown.alloc _) ⟨wr.heap.size, 0, none⟩ 1 1 [.string (s.extract k (k + 1)), .int .i64 n, .int .i64 (k + 1)] rfl rfl ?c1 ?c2 ?c3 ?c4 ?c5 ?_))
          case c1 =>
           intro j u hj
           match j, hj with
           | 0, hj => simp at hj; subst hj; simp [Addr.add]
           | 1, hj => simp at hj; subst hj; simp [Addr.add]
           | 2, hj => simp at hj; subst hj; simp [Addr.add]
          case c2 => intro u hu; simp at hu; rcases hu with rfl | rfl | rfl <;> rfl
          case c3 => unfold maxLen; omega
          case c4 => omega
          case c5 => have := hbel.size; simp; omega
          intro v' w3 hown3 hgrow3 _;have hb3 := (hbel.alloc hbel.size _).grown hgrow3 (by have := hbel.size; simp; omega) (fun j hj => (hown.lt j hj).1);clear hgrow3
          have hrow : (lst n (s.toList.take (k + 1))).out.length = (lst n (s.toList.take k)).out.length + 1 /\ wrow (lst n (s.toList.take (k + 1))).out = wrow (lst n (s.toList.take k)).out ++ [.string (s.extract k (k + 1)), .int .i64 n, .int .i64 ((k : Int) + 1)] := by
           rw [hts.out, HX.out.2, HTL.out, Jch, Jqb s k hlt];exact ⟨by simp, rfl⟩
          rw [<- hrow.1, <- hrow.2] at hown3;have hbn := HX.out.1;rw [HTL.out, <- hts.out] at hbn;clear hrow;go_wp2;go_roundw
          case rel => exact ⟨k + 1, k, by omega, by go_num, rfl, hbn, HN.out, hown3, hb3⟩
          case measure => simp [intOf]; omega
        · obtain ⟨g, cap, cur, rfl, hg⟩ : ∃ g cap cur, u6 = .slice (some ⟨g, 0, none⟩) (lst n (s.toList.take k)).out.length cap /\ wr.heap[g]? = some (.cells cur 208 (0, 0)) := by
           rcases hown.2 with ⟨e, h0⟩ | ⟨g, cap, cur, e, _, hg, _⟩
           · exfalso; rw [h2] at h0; simp at h0
           · exact ⟨g, cap, cur, e, hg⟩
          have HX := zI (Jv7 (c := s[k]) hb h1 h2 h3 h4 h5);obtain ⟨bn, hbn⟩ : ∃ bn : Nat, bg = bn := ⟨bg.toNat, by omega⟩;subst hbn;have hbk : bn < k := by have := HTL.out; rw [this] at h4; simpa using h4
          have hl2 : (lst n (s.toList.take k)).out.length = p.length + 1 := by rw [h2]; simp
          rw [h2] at hown;simp only [List.length_append, List.length_cons, List.length_nil, Nat.zero_add] at hown;rw [hl2] at hlen;rw [hl2]
          have hx0 : wr.cell? ⟨g, p.length * 3, none⟩ = some (.string ⟨x.text.toArray⟩) := by
           rw [hown.cellAt _ (by omega), (Jg2 (p ++ [x]) p.length (by simp)).1]; simp
          have hx1 : wr.frozen? ⟨g, p.length * 3, none⟩ = false := hown.frozenAt _;have hst := hown.stored (p.length * 3) (.string (s.extract bn (k + 1)))
          have hset : (wrow (p ++ [x])).set (p.length * 3) (.string (s.extract bn (k + 1))) = wrow (lst n (s.toList.take (k + 1))).out := by
           rw [hts.out, HX.out.2, Jft, hts.out, J0f]; simp
          have hl3 : (lst n (s.toList.take (k + 1))).out.length = p.length + 1 := by rw [hts.out, HX.out.2]; simp
          rw [hset, <- hl3] at hst;have HST := zI hst;have HL3 := zI hl3;have hbelg : w.heap.size <= g := (hown.lt g rfl).1;clear h1 h3 h4 h5 hg hst hset hl3;have HB2 := zI h2;have HL2 := zI hl2;clear h2 hl2
          go_wp2_with (first
           | (go_at_call 234; refine (Jg0 _ _).mono ?_; rintro e w' ⟨rfl, rfl⟩)
           | (go_at_call 235; refine (Jeg _ _).mono ?_; rintro e w' ⟨rfl, rfl⟩))
          go_roundw
          case rel => exact ⟨k + 1, bn, by omega, by go_num, rfl, by rw [hts.out]; exact HX.out.1, HN.out, by have := HST.out.1; rw [HL3.out] at this ⊢; exact this, hbel.setCell hbelg _⟩
          case measure => simp [intOf]; omega
      · have HX := zI (Jqa (n := n) (l := s.toList.take k) hb)
        clear hok
        go_wp2_with (first
         | (go_at_call 234; refine (Jg0 _ _).mono ?_; rintro e w' ⟨rfl, rfl⟩)
         | (go_at_call 235; refine (Jeg _ _).mono ?_; rintro e w' ⟨rfl, rfl⟩))
        go_roundw
        case rel => exact ⟨k + 1, -1, by omega, by go_num, rfl, by rw [hts.out]; exact HX.out.1, HN.out, by rw [hts.out, HX.out.2]; exact hown, hbel⟩
        case measure => simp [intOf]; omega
  · have hke : k = s.size := by omega
    have hfull : s.toList.take k = s.toList := List.take_of_length_le (by rw [Jab]; omega);rw [hfull] at hown;have HALL := zI (show s.toList.all okB = true from by have := HA.out; rwa [hfull] at this);obtain ⟨A, c, rfl, hc, hsl⟩ := own_slice hown;have hlen := Jp9 n s.toList;rw [Jab] at hlen;have hd : decide ((k : Int) < (s.size : Int)) = false := decide_eq_false (by omega);clear hke hfull HA HBG;obtain ⟨L, hL⟩ : ∃ L, L = (lst n s.toList).out := ⟨_, rfl⟩;have HLQ := zI hL;have hne : ∀ x ∈ L, x.text ≠ [] := fun x hx => (Jrx n s.toList x (by rw [<- hL]; exact hx)).1;rw [<- hL] at hown hsl hlen;rw [<- hL];clear hL;have HNE := zI hne;clear hne;obtain ⟨wo, hwo⟩ : ∃ wo, wo = wr := ⟨_, rfl⟩;go_wp2_with fail
    subst hwo;go_loopw [62] (fun i wr => ∃ j : Nat, j <= L.length /\ i = .int .i64 j /\ (L.take j).all Ja2 = true /\ Below wo.heap.size wo wr) (fun i _ => L.length - (intOf i).toNat)
    case atStart => exact ⟨0, Nat.zero_le _, rfl, rfl, Below.refl _ _⟩
    case round =>
     obtain ⟨j, hj, rfl, hnr, hb2⟩ := hrel;have HNR := zI hnr;clear hnr;by_cases hjl : j < L.length
     · obtain ⟨b, off, rfl, hb, hcell⟩ := (hsl.below hb2).at_ (fun e => by have := congrArg List.length e; rw [Jeh] at this; simp at this; omega)
       obtain ⟨g1, g2, g3⟩ := Jg2 L j hjl;have y1 := hcell _ _ g1;have y2 := hcell _ _ g2;have y3 := hcell _ _ g3;rw [<- Nat.add_assoc] at y2 y3;have htx := HNE.out _ (List.getElem_mem hjl);obtain ⟨tb, htb⟩ : ∃ tb : ByteArray, tb = ⟨L[j].text.toArray⟩ := ⟨_, rfl⟩;rw [<- htb] at y1;obtain ⟨hp, hrem⟩ := Jof L[j] tb htb htx;have hjc : j <= c := by have := Nat.le_of_lt hjl; rw [HLQ.out] at this; omega
       have own2 := own_below hown hb2;clear hcell g1 g2 g3 htb;cases hr : Ja2 L[j]
       · have HW := zI (show Jae n s.toList = L.take j from by unfold Jae; rw [<- HLQ.out]; exact Je6 _ _ _ hjl HNR.out hr)
         rw [hr] at hrem
         have hq : ((tb[0].toNat : Int) == 35) = true := by
          cases hh : ((tb[0].toNat : Int) == 35)
          · rw [hh] at hrem; cases hrem
          · rfl
         clear hrem hr;go_wp2_with fail
         go_ret2;have ho := Jtp own2 (Nat.le_of_lt hjl) (by simp);rw [Jv8 L j (Nat.le_of_lt hjl), <- HW.out] at ho;have hlj : (Jae n s.toList).length = j := (by rw [HW.out, List.length_take, Nat.min_eq_left (Nat.le_of_lt hjl)]);exact .inl ⟨HALL.out, _, rfl, by rw [hlj]; exact own_below ho ((Below.refl _ _).alloc (Nat.le_refl _) _), (hbel.trans (hb2.mono hbel.size)).alloc (by have := hb2.size; have := hbel.size; omega) _⟩
       · have HNX := zI (Jv9 hjl HNR.out hr)
         rw [hr] at hrem
         have hq : ((tb[0].toNat : Int) == 35) = false := by
          cases hh : ((tb[0].toNat : Int) == 35)
          · rfl
          · rw [hh] at hrem; cases hrem
         clear hrem hr;go_wp2_with fail
         go_roundw
         case rel => exact ⟨j + 1, by omega, by go_num, HNX.out, hb2.alloc hb2.size _⟩
         case measure => simp [intOf]; omega
     · have HW := zI (show Jae n s.toList = L from by
        have := HNR.out;rw [List.take_of_length_le (by omega)] at this;unfold Jae; rw [<- HLQ.out]; exact Jgz _ _ this)
       have hd2 : decide ((j : Int) < (L.length : Int)) = false := decide_eq_false (by omega);go_wp2_with fail
       go_ret2;exact .inl ⟨HALL.out, _, rfl, by rw [HW.out]; exact own_below hown hb2, hbel.trans (hb2.mono hbel.size)⟩
end Go.Proofs.YtalkkhafcfhglaaGreatDoor.Py
