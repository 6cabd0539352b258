/-
  Several texts in one: ReachA, Eq, Tsame, Brb, Catd, Laye, Glo.
-/
import Derived.Lib.LaidTab
import Derived.Test.YtalkkhafcfhglaaGreatDoorQ35
set_option maxRecDepth 100000
set_option maxHeartbeats 4000000
namespace Go.Proofs.YtalkkhafcfhglaaGreatDoor
open Go.ChangeShapes Go.WideShapes Go.ChangeAt Go.RowKit Go.Deep
def Rch.all (r : Rch) : List Int := (List.range r.ts.length).map r.from_
theorem Rch.all_len (r : Rch) : r.all.length = r.ts.length := by simp [Rch.all]
theorem Jyb (A : Option Addr) (n c : Nat) (B : Option Addr) (m d : Nat) (r : Rch) (w : World) (h : Jef w A n B m r) (hn : n <= 1000) :
  Calls Tryz.prog 103 #[rchV r.now r.nm A n c B m d] w fun e w' => ∃ v, e = .returned v /\ w'.ownsRow w.heap.size 3 1 v n (r.all.map (Value.int .i64)) /\ Below w.heap.size w w' := by
 have HR := zI h;have HL := zI h.ts.len;have hb0 := (Below.refl w.heap.size w).alloc (Nat.le_refl _) (.cells #[.int .i64 r.now, .string r.nm, .slice A n c, .slice B m d] 121);have hx0 := Bx.new w 121 #[.int .i64 r.now, .string r.nm, .slice A n c, .slice B m d];have HB0 := zI hb0;have HX0 := zI hx0;clear h hb0 hx0;go_enter Tryz.func103, Tryz.ntmps103;go_wp2_with fail
 go_loopw [3, 9] (fun v i wr => ∃ k : Nat, k <= n /\ i = .int .i64 (k : Int) /\ wr.ownsRow w.heap.size 3 1 v k (((List.range k).map r.from_).map (Value.int .i64)) /\ Bx wr w.heap.size 121 #[.int .i64 r.now, .string r.nm, .slice A n c, .slice B m d] /\ Below w.heap.size w wr) (fun _ i _ => n - (intOf i).toNat)
 case atStart => exact ⟨0, Nat.zero_le _, rfl, World.ownsRow_nil _ _ _ _, HX0.out, HB0.out⟩
 case round =>
  obtain ⟨k, hk, rfl, hown, hx, hb⟩ := hrel;by_cases hlt : k < n
  · have HF := zI (Jmf A n c B m d r k wr (HR.out.below hb) (by omega) hlt)
    have HS := zI (show ((List.range k).map r.from_).map (Value.int .i64) ++ [Value.int .i64 (r.from_ k)] = ((List.range (k + 1)).map r.from_).map (Value.int .i64) from by rw [List.range_succ, List.map_append, List.map_append]; rfl);generalize r.from_ k = z at *;have HON := zI (show ∀ u ∈ [Value.int .i64 z], u.oneCell' = true from by intro u hu; rw [List.mem_singleton.1 hu]; rfl);have HK := zI (show k + 1 <= 1000000 from by omega);have s0 := hx.at_ 0 rfl;have s1 := hx.at_ 1 rfl;have s2 := hx.at_ 2 rfl;have s3 := hx.at_ 3 rfl;have HX := zI hx;have HO := zI hown;have HB := zI hb;clear hown hx hb;go_wp2_with fail
    refine HF.out.mono ?_;rintro e w2 ⟨rfl, hb2⟩;have hb3 := hb2.alloc hb2.size (.cells #[.int .i64 z] 3);have HO3 := zI (Jaj HO.out hb3);have HX3 := zI (HX.out.below hb3);have HB3 := zI (HB.out.trans (hb3.mono HB.out.size));have HSL := zI (Sl.new w2 3 w2.heap.size [.int .i64 z] #[.int .i64 z] rfl rfl);clear hb2 hb3 s0 s1 s2 s3;go_wp2_with (at_builtin; refine Jvv rfl _ _ rfl HO3.out rfl (some ⟨w2.heap.size, 0, none⟩) 1 1 _ rfl rfl HSL.out HON.out HK.out HB3.out.size ?_; intro A' c' w5 ho5 hg5)
    have hb5 := Jb8 HO3.out hg5 HB3.out HB3.out.size;rw [HS.out] at ho5;have hx5 := HX3.out.grown hg5 (HX3.out.not_row HO3.out (by decide));go_roundw
    case rel => exact ⟨k + 1, by omega, by go_num, ho5, hx5, hb5⟩
    case measure => simp [intOf]; omega
  · have hke : k = n := by omega
    have HS := zI (show ((List.range k).map r.from_) = r.all from by unfold Rch.all; rw [HL.out, hke]);rw [HS.out] at hown;subst hke;have HO := zI hown;have HB := zI hb;obtain ⟨Av, cv, rfl, _⟩ := Jaq hown;clear hown hx hb;go_wp2_with fail
    go_ret;exact ⟨_, rfl, HO.out, HB.out⟩
theorem Jyc (A B : Option Addr) (n c d : Nat) (l : List Int) (w : World) (hA : Ints w .i64 A n l) (hB : Ints w .i64 B n l) :
  Calls Tryz.prog 102 #[.slice A n c, .slice B n d] w fun e w' => e = .returned (.bool true) /\ ∃ q, w' = w.drewN q := by
 have hn := hA.n_le;unfold maxLen at hn;have HL := zI hA.len;go_enter Tryz.func102, Tryz.ntmps102;go_wp2_with fail
 obtain ⟨w6, hw6⟩ : ∃ w6, w6 = w := ⟨_, rfl⟩;subst hw6;go_loopw [5, 13] (fun _ i wr => ∃ j : Nat, j <= n /\ i = .int .i64 j /\ Below w6.heap.size w6 wr /\ Hid (∃ q, wr = w6.drewN q)) (fun _ i _ => n - (intOf i).toNat)
 case atStart => exact ⟨0, Nat.zero_le _, rfl, Below.refl _ _, zI ⟨0, rfl⟩⟩
 case round =>
  obtain ⟨j, hj, rfl, hbel, HQ⟩ := hrel;by_cases hlt : j < n
  · have K : j < l.length := by rw [HL.out]; exact hlt
    obtain ⟨g1, o1, rfl, hb, X⟩ := (hA.below hbel).get K;obtain ⟨g2, o2, rfl, hb2, Y⟩ := (hB.below hbel).get K;generalize l[j]'K = x at *;have g0 : (0 : Int) <= (j : Int) := (by omega);have g1 : (j : Int) < (n : Int) := (by omega);go_wp2_with fail
    go_quiet (fail)
    go_wp2_with fail
    go_roundw
    case rel => exact ⟨j + 1, by omega, by go_num, below_drewN hbel _, zI (by obtain ⟨q, hq⟩ := HQ.out; exact ⟨q + nq, by rw [hq, World.drewN_drewN]⟩)⟩
    case measure => simp [intOf]; omega
  · have hd : decide ((j : Int) < (n : Int)) = false := decide_eq_false (by omega)
    go_wp2_with fail
    go_ret;exact ⟨rfl, HQ.out⟩
theorem Jyd (A B : Option Addr) (n c d : Nat) (l : List Rc) (w : World) (hA : Rcs w A n l) (hB : Rcs w B n l) :
  Calls Tryz.prog 82 #[.slice A n c, .slice B n d] w fun e w' => e = .returned (.bool true) /\ ∃ q, w' = w.drewN q := by
 have hn := hA.n_le;unfold maxLen at hn;have HL := zI hA.len;go_enter Tryz.func82, Tryz.ntmps82;go_wp2_with fail
 obtain ⟨w6, hw6⟩ : ∃ w6, w6 = w := ⟨_, rfl⟩;subst hw6;go_loopw [5, 13] (fun _ i wr => ∃ j : Nat, j <= n /\ i = .int .i64 j /\ Below w6.heap.size w6 wr /\ Hid (∃ q, wr = w6.drewN q)) (fun _ i _ => n - (intOf i).toNat)
 case atStart => exact ⟨0, Nat.zero_le _, rfl, Below.refl _ _, zI ⟨0, rfl⟩⟩
 case round =>
  obtain ⟨j, hj, rfl, hbel, HQ⟩ := hrel;by_cases hlt : j < n
  · have K : j < l.length := by rw [HL.out]; exact hlt
    obtain ⟨g1, o1, rfl, hb, X⟩ := (hA.below hbel).get K;obtain ⟨g2, o2, rfl, hb2, Y⟩ := (hB.below hbel).get K;obtain ⟨r0, r1, r2, r3, r4, r5, r6⟩ := X;obtain ⟨s0, s1, s2, s3, s4, s5, s6⟩ := Y;generalize l[j]'K = x at *;have g0 : (0 : Int) <= (j : Int) := (by omega);have g1 : (j : Int) < (n : Int) := (by omega);go_wp2_with fail
    go_quiet (fail)
    go_wp2_with fail
    go_roundw
    case rel => exact ⟨j + 1, by omega, by go_num, below_drewN hbel _, zI (by obtain ⟨q, hq⟩ := HQ.out; exact ⟨q + nq, by rw [hq, World.drewN_drewN]⟩)⟩
    case measure => simp [intOf]; omega
  · have hd : decide ((j : Int) < (n : Int)) = false := decide_eq_false (by omega)
    go_wp2_with fail
    go_ret;exact ⟨rfl, HQ.out⟩
end Go.Proofs.YtalkkhafcfhglaaGreatDoor
namespace Go.Proofs.YtalkkhafcfhglaaGreatDoor
open Go.RowKit
structure Tv.Fine (t : Tv) : Prop where
 one : 1 <= t.tabs.length
 all : ∀ z ∈ t.r.all, (Lit.int .i64 z).wf = true
 few : ∀ i, i < t.tabs.length -> (t.tab i).length < 1000000
 ok : ∀ i, i < t.tabs.length -> ∀ r ∈ t.tab i, r.Ok
theorem J1h {F G : Nat -> Prop} {g h : Nat} {t : Tv} {fs : List Int} (w : World) (hT : Jal w F g t) (hO : Jal w G h (t.withFs fs)) (hfs : (t.withFs fs).r.all = t.r.all) (hf : t.Fine) :
  Calls Tryz.prog 52 #[.pointer (some ⟨g, 0, none⟩), .pointer (some ⟨h, 0, none⟩)] w fun e w' => e = .returned (.bool true) /\ Below w.heap.size w w' := by
 have hlen := hT.len;have h3 := hT.few;have HT := zI hT;have HFS := zI hfs;have HO := zI hO;have HFI := zI hf;obtain ⟨A, c, B, m, d, L, cl, ga, gm, hX, hR, hTB⟩ := hT.tabs;obtain ⟨A', c', B', m', d', L', cl', ga', gm', hX', hR', hTB'⟩ := hO.tabs;have hX' : Bx w h 125 #[.int .i64 t.r.now, .string t.r.nm, .slice A' t.tabs.length c', .slice B' m' d', .slice L' t.tabs.length cl'] := hX';have hR' : Jef w A' t.tabs.length B' m' (t.withFs fs).r := hR';obtain ⟨n, hn⟩ : ∃ n, n = t.tabs.length := ⟨_, rfl⟩;rw [<- hn] at hX hR hX' hR' h3;have HN := zI hn;have HPS := zI (fun W (hW : Below w.heap.size w W) => (Py.same_any t.r.nm t.r.nm A A' n n c c' t.r.ts t.r.ts W (hR.ts.below hW) (hR'.ts.below hW)).mono (fun e w' (hh : e = .returned (.bool (Py.sameP t.r.nm t.r.nm t.r.ts t.r.ts)) /\ Below W.heap.size W w') => (show e = .returned (.bool true) /\ Below w.heap.size w w' from ⟨by rw [hh.1, Py.sameP_iff.2 ⟨rfl, rfl⟩], hW.trans (hh.2.mono hW.size)⟩)));have HALL := zI (fun A c B m d r (hR : Jef w A n B m r) (hra : r.all = t.r.all) (hrv : rchV r.now r.nm A n c B m d = rchV t.r.now t.r.nm A n c B m d) W (hW : Below w.heap.size w W) => (show Calls Tryz.prog 103 #[rchV t.r.now t.r.nm A n c B m d] W (fun e w' => (∃ v, e = .returned v /\ w'.ownsRow W.heap.size 3 1 v n (t.r.all.map (Value.int .i64)) /\ Below W.heap.size W w') /\ Below w.heap.size w w') from by rw [<- hrv, <- hra]; exact (Jyb A n c B m d r W (hR.below hW) h3).mono (fun e w' (hh : ∃ v, e = .returned v /\ w'.ownsRow W.heap.size 3 1 v n (r.all.map (Value.int .i64)) /\ Below W.heap.size W w') => (show (∃ v, e = .returned v /\ w'.ownsRow W.heap.size 3 1 v n (r.all.map (Value.int .i64)) /\ Below W.heap.size W w') /\ Below w.heap.size w w' from ⟨hh, by obtain ⟨_, _, _, hb⟩ := hh; exact hW.trans (hb.mono hW.size)⟩))));have HR := zI hR;have HR' := zI hR';have HX := zI hX;have HX' := zI hX';have HXD := zI hX.drew;have HXD' := zI hX'.drew;have HLA := zI (show t.r.all.length = n from by rw [Rch.all_len, hlen, hn]);clear hT hO hf hfs hX hX' hR hR' hTB hTB' hn hlen;go_enter Tryz.func52, Tryz.ntmps52;go_upto_region 3 with fail
 go_region_held3 (fun w' => w'.cell? ⟨g, 0, none⟩ = some (.int .i64 t.r.now) /\ w'.cell? ⟨g, 1, none⟩ = some (.string t.r.nm) /\ w'.cell? ⟨g, 2, none⟩ = some (.slice A n c) /\ w'.cell? ⟨g, 3, none⟩ = some (.slice B m d) /\ w'.cell? ⟨h, 0, none⟩ = some (.int .i64 t.r.now) /\ w'.cell? ⟨h, 1, none⟩ = some (.string t.r.nm) /\ w'.cell? ⟨h, 2, none⟩ = some (.slice A' n c') /\ w'.cell? ⟨h, 3, none⟩ = some (.slice B' m' d') /\ Below w.heap.size w w')
  (first
    | exact ⟨HXD.out.at_ 0 rfl, HXD.out.at_ 1 rfl, HXD.out.at_ 2 rfl, HXD.out.at_ 3 rfl, HXD'.out.at_ 0 rfl, HXD'.out.at_ 1 rfl, HXD'.out.at_ 2 rfl, HXD'.out.at_ 3 rfl, (Below.refl _ _).drew⟩
    | (have hS := hS2.out
       exact ⟨(HX.out.below hS).at_ 0 rfl, (HX.out.below hS).at_ 1 rfl, (HX.out.below hS).at_ 2 rfl, (HX.out.below hS).at_ 3 rfl, (HX'.out.below hS).at_ 0 rfl, (HX'.out.below hS).at_ 1 rfl, (HX'.out.below hS).at_ 2 rfl, (HX'.out.below hS).at_ 3 rfl, hS⟩)
    | (have hS := hS3.out
       exact ⟨(HX.out.below hS).at_ 0 rfl, (HX.out.below hS).at_ 1 rfl, (HX.out.below hS).at_ 2 rfl, (HX.out.below hS).at_ 3 rfl, (HX'.out.below hS).at_ 0 rfl, (HX'.out.below hS).at_ 1 rfl, (HX'.out.below hS).at_ 2 rfl, (HX'.out.below hS).at_ 3 rfl, hS⟩)
    | (have hS := hS4.out
       exact ⟨(HX.out.below hS).at_ 0 rfl, (HX.out.below hS).at_ 1 rfl, (HX.out.below hS).at_ 2 rfl, (HX.out.below hS).at_ 3 rfl, (HX'.out.below hS).at_ 0 rfl, (HX'.out.below hS).at_ 1 rfl, (HX'.out.below hS).at_ 2 rfl, (HX'.out.below hS).at_ 3 rfl, hS⟩)
    | (have hS := hS5.out
       exact ⟨(HX.out.below hS).at_ 0 rfl, (HX.out.below hS).at_ 1 rfl, (HX.out.below hS).at_ 2 rfl, (HX.out.below hS).at_ 3 rfl, (HX'.out.below hS).at_ 0 rfl, (HX'.out.below hS).at_ 1 rfl, (HX'.out.below hS).at_ 2 rfl, (HX'.out.below hS).at_ 3 rfl, hS⟩))
  (first
    | (go_at_call 101
       refine (HPS.out _ ?hv).mono ?_
       case hv => (go_split_ands; assumption)
       rintro e w2 ⟨rfl, hS2'⟩;have hS2 := zI hS2')
    | (go_at_call 103
       with_reducible refine (HALL.out A c B m d t.r HR.out rfl rfl _ ?hv).mono ?_
       case hv => (go_split_ands; assumption)
       rintro e w3 ⟨⟨v, rfl, ho3, hb3⟩, hS3'⟩;obtain ⟨A3, c3, rfl, hsl3⟩ := Jaq ho3;have HO3 := zI ho3;have hS3 := zI hS3';clear ho3 hb3 hsl3)
    | (go_at_call 103
       with_reducible refine (HALL.out A' c' B' m' d' (t.withFs fs).r HR'.out HFS.out rfl _ ?hv).mono ?_
       case hv => (go_split_ands; assumption)
       rintro e w4 ⟨⟨v, rfl, ho4, hb4⟩, hS4'⟩;obtain ⟨A4, c4, rfl, hsl4⟩ := Jaq ho4;have HI3 := zI (show Ints w4 .i64 A3 n t.r.all from ⟨(by obtain ⟨_, _, e, hh⟩ := Jaq (Jaj HO3.out hb4); cases e; exact hh), HLA.out, by unfold maxLen; omega, HFI.out.all⟩);have HI4 := zI (show Ints w4 .i64 A4 n t.r.all from ⟨hsl4, HLA.out, by unfold maxLen; omega, HFI.out.all⟩);have hS4 := zI hS4';clear ho4 hb4 hsl4)
    | (go_at_call 102
       refine (Jyc A3 A4 n c3 c4 _ _ HI3.out HI4.out).mono ?_;rintro e w5 ⟨rfl, q5, rfl⟩;have hS5 := zI (below_drewN hS4.out q5)))
 obtain ⟨w6, hw6⟩ : ∃ w6, w6 = w4.drewN q5 := ⟨_, rfl⟩;have hb6 : Below w.heap.size w w6 := by rw [hw6]; exact hS5.out
 rw [<- hw6];have HB6 := zI hb6;have y2 := (HX.out.below hb6).at_ 2 (v := .slice A n c) rfl;clear hw6 hb6;go_split_ands;go_wp2_with fail
 clear y2;go_loopw [5, 64] (fun _ j wr => ∃ q : Nat, q <= n /\ j = .int .i64 (q : Int) /\ Below w.heap.size w wr) (fun _ j _ => n - (intOf j).toNat)
 case atStart => exact ⟨0, Nat.zero_le _, rfl, HB6.out⟩
 case round =>
  obtain ⟨q, hq, rfl, hb⟩ := hrel;have HB := zI hb;clear hb;by_cases hlt : q < n
  · have hq' : q < t.tabs.length := by rw [<- HN.out]; exact hlt
    have HR1 := zI (Jmi wr (HT.out.below HB.out) q hq' (HFI.out.few q hq'));clear hq';go_wp2_with fail
    refine HR1.out.mono ?_;rintro e w8 ⟨v, rfl, ho8, hb8⟩;have hq' : q < t.tabs.length := by rw [<- HN.out]; exact hlt
    have HR2 : Hid (Calls Tryz.prog 104 #[.pointer (some ⟨h, 0, none⟩), .int .i64 (q : Int)] w8 fun e w' => ∃ v, e = .returned v /\ w'.ownsRow w8.heap.size 169 7 v (t.tab q).length ((t.tab q).flatMap Rc.cells) /\ Below w8.heap.size w8 w') := zI (Jmi w8 ((HO.out.below HB.out).below hb8) q hq' (HFI.out.few q hq'));have HB8 := zI (HB.out.trans (hb8.mono HB.out.size));have HO8 := zI ho8;have HOK := zI (HFI.out.ok q hq');have HFW := zI (HFI.out.few q hq');generalize t.tab q = l at *;obtain ⟨A8, c8, rfl, hr8⟩ := Jl5 ho8 HOK.out (by have := HFW.out; unfold maxLen; omega);obtain ⟨m, hm⟩ : ∃ m, m = l.length := ⟨_, rfl⟩;rw [<- hm] at hr8 HR2 ⊢;have HR8 := zI hr8;have HM := zI hm;clear hq' ho8 hb8 hr8 hm HO8;go_wp2_with fail
    refine HR2.out.mono ?_;rintro e w9 ⟨v, rfl, ho9, hb9⟩;obtain ⟨A9, c9, rfl, hr9⟩ := Jl5 (by rw [<- HM.out]; exact ho9) HOK.out (by have := HFW.out; unfold maxLen; omega);rw [<- HM.out] at hr9 ⊢;have HEQ := zI (Jyd A8 A9 m c8 c9 l w9 (HR8.out.below hb9) hr9);have HB9 := zI (HB8.out.trans (hb9.mono HB8.out.size));clear ho9 hb9 hr9;go_wp2_with fail
    refine HEQ.out.mono ?_;rintro e w10 ⟨rfl, q10, rfl⟩;have HB10 := zI (below_drewN HB9.out q10);go_wp2_with fail
    go_roundw
    case rel => exact ⟨q + 1, by omega, by go_num, HB10.out⟩
    case measure => simp [intOf]; omega
  · have hqe : q = n := by omega
    subst hqe;go_wp2_with fail
    go_ret;exact ⟨rfl, HB.out⟩
structure Tv.Good (t : Tv) : Prop where
 ck : Py.checkR t.r.nm.toList t.r.ts = (0, 0)
 nm : t.r.nm.size <= maxLen
 len : t.tabs.length = t.r.ts.length
 now : 0 <= t.r.now /\ t.r.now <= 1099511627776
 flo : ∀ i, i < t.r.ts.length -> 0 <= t.r.from_ i /\ t.r.from_ i <= 4611686018427387904 /\ onB (t.r.from_ i) (t.r.ev i) = true
 ord : ∀ i, i < t.tabs.length -> (t.tab i).Pairwise Rc.lt
 fine : ∀ i, i < t.tabs.length -> ∀ r ∈ t.tab i, r.Fine /\ Jas (t.r.ev i) r = true /\ t.r.from_ i <= r.st
 few : ∀ i, i < t.tabs.length -> (t.tab i).length <= 10000
theorem Tv.ext_tab {a b : Tv} (hr : a.r = b.r) (hl : a.tabs.length = b.tabs.length) (h : ∀ i, i < a.tabs.length -> a.tab i = b.tab i) : a = b := by
 obtain ⟨ar, ta⟩ := a;obtain ⟨br, tb⟩ := b;cases hr
 have e : ta = tb := by
  apply List.ext_getElem hl;intro i h1 h2;have := h i h1
  simpa [Tv.tab, h1, h2] using this
 rw [e]
section
variable {t : Tv}
theorem Tv.Good.ti (h : t.Good) {i : Nat} (hi : i < t.tabs.length) : ∃ K : i < t.r.ts.length, (t.r.ts[i]).Fine /\ t.r.ev i = (t.r.ts[i]).ev /\ t.r.sh i = (t.r.ts[i]).sh := by
 have K : i < t.r.ts.length := by rw [<- h.len]; exact hi
 obtain ⟨_, _, _, hf, _⟩ := Py.check_fine h.ck;exact ⟨K, hf _ (List.getElem_mem K), Rch.ev_at K, Rch.sh_at K⟩
theorem Tv.Good.n (h : t.Good) : 1 <= t.tabs.length /\ t.tabs.length <= 5 := by
 obtain ⟨_, h1, h2, _, _⟩ := Py.check_fine h.ck;rw [h.len]; exact ⟨h1, h2⟩
theorem Tv.Good.sh (h : t.Good) {i : Nat} (hi : i < t.tabs.length) : 1 <= t.r.sh i /\ t.r.sh i <= 8 := by
 obtain ⟨_, hf, _, e⟩ := h.ti hi;rw [e]; exact hf.sh
theorem Tv.Good.ev (h : t.Good) {i : Nat} (hi : i < t.tabs.length) : 1 <= t.r.ev i /\ t.r.ev i <= 1000000 := by
 obtain ⟨_, hf, e, _⟩ := h.ti hi;rw [e]; exact hf.ev
theorem Tv.Good.want (h : t.Good) : t.Want :=
 ⟨h.n, fun i hi => h.sh hi, fun i hi => by have := h.few i hi; omega, fun i hi r hr => (h.fine i hi r hr).1.ok⟩
theorem Tv.Good.same (h : t.Good) : t.Fine :=
 ⟨h.n.1, fun z hz => by
  unfold Rch.all at hz;obtain ⟨i, hi, rfl⟩ := List.mem_map.1 hz;have := h.flo i (List.mem_range.1 hi);exact Jbz (by omega), fun i hi => by have := h.few i hi; omega, fun i hi r hr => (h.fine i hi r hr).1.ok⟩
theorem Jsu : ∀ {cs : List (Int × Int)}, (∀ p ∈ cs, 1 <= p.2) -> 0 <= Jcp cs /\ Jcp cs <= sumC cs
 | [], _ => by simp [Jcp, sumC]
 | p :: r, h => by
   have h1 := h p (by simp);have h2 := Jsu (fun q hq => h q (List.mem_cons_of_mem _ hq)) (cs := r);simp only [Jcp, sumC];omega
theorem J1i (n : Int) (l : List Rc) : 0 <= Jhr n l /\ Jhr n l <= l.length := by
 have h := Jsu (Jd0 (Jbc n l));rw [Jdz] at h;unfold Jhr
 simpa [Jbc] using h
theorem Tv.Good.rare (h : t.Good) : t.Few := ⟨fun i hi => by have := h.few i hi; omega, fun i hi => by
 have h1 := J1i (t.r.sh i) (t.tab i);have h2 := h.few i hi;omega⟩
theorem Jj6 {i n : Nat} {l : List Rc} {q : Nat} {x : Wv} (h : x ∈ Jdk i n l q) : ∃ s, s < q /\ x = (i, s, Ja0 n l s) /\ Ja0 n l s ≠ [] := by
 unfold Jdk at h;obtain ⟨s, hs, e⟩ := List.mem_filterMap.1 h;split at e
 · cases e
 · next hn => cases e; exact ⟨s, List.mem_range.1 hs, rfl, hn⟩
theorem Jfy {k : Nat} {x : Wv} (h : x ∈ Jah t k) : ∃ i s, i < k /\ s < (t.r.sh i).toNat /\ x = (i, s, Ja0 (t.r.sh i).toNat (t.tab i) s) /\ Ja0 (t.r.sh i).toNat (t.tab i) s ≠ [] := by
 unfold Jah at h;obtain ⟨i, hi, hx⟩ := List.mem_flatMap.1 h;obtain ⟨s, hs, e, hn⟩ := Jj6 hx;exact ⟨i, s, List.mem_range.1 hi, hs, e, hn⟩
def wvLt (a b : Wv) : Prop := a.1 < b.1 \/ a.1 = b.1 /\ a.2.1 < b.2.1
theorem Jsv (i n : Nat) (l : List Rc) : ∀ q, (Jdk i n l q).Pairwise wvLt
 | 0 => by unfold Jdk; exact List.Pairwise.nil
 | q + 1 => by
   rw [Jd7, List.pairwise_append];refine ⟨Jsv i n l q, ?_, fun a ha b hb => ?_⟩
   · split
     · exact List.Pairwise.nil
     · exact List.pairwise_singleton _ _
   · split at hb
     · cases hb
     · rw [List.mem_singleton.1 hb]
       obtain ⟨s, hs, rfl, _⟩ := Jj6 ha;exact .inr ⟨rfl, hs⟩
theorem Jpg (t : Tv) : ∀ k, (Jah t k).Pairwise wvLt
 | 0 => by unfold Jah; exact List.Pairwise.nil
 | k + 1 => by
   rw [Jdl, List.pairwise_append];refine ⟨Jpg t k, Jsv _ _ _ _, fun a ha b hb => ?_⟩;obtain ⟨i, s, hi, _, rfl, _⟩ := Jfy ha;obtain ⟨s', _, rfl, _⟩ := Jj6 hb;exact .inl hi
theorem Tv.Good.wv (h : t.Good) : WvOk (Jah t t.tabs.length) := by
 have hn := h.n
 have fit : ∀ x ∈ Jah t t.tabs.length, x.1 < 5 /\ x.2.1 < 8 /\ 1 <= x.2.2.length /\ x.2.2.length <= 10000 /\ (∀ r ∈ x.2.2, r.Fine) /\ x.2.2.Pairwise Rc.lt := by
  intro x hx;obtain ⟨i, s, hi, hs, rfl, hne⟩ := Jfy hx;have hsh := h.sh hi;have hf := h.few i hi;have hl := Jj4 (t.r.sh i).toNat (t.tab i) s;refine ⟨by show i < 5; omega, by show s < 8; omega, List.length_pos_iff.2 hne, by show (Ja0 _ _ _).length <= _; omega, fun r hr => (h.fine i hi r (Jhj hr).1).1, (h.ord i hi).sublist (Jsr _ _ _)⟩
 refine ⟨?_, fit, ?_⟩
 · have := Jln t t.tabs.length (fun j hj => by have := h.sh hj; omega)
   omega
 · show List.Pairwise _ _
   rw [List.pairwise_map];refine List.Pairwise.imp_of_mem (fun {a b} ha hb hab => ?_) (Jpg t t.tabs.length);have h1 := fit a ha;have h2 := fit b hb;refine Jql (by omega) (by omega) (by omega) (by omega) (fun e => ?_);rcases hab with h3 | ⟨_, h3⟩ <;> omega
theorem Tv.Good.needW (h : t.Good) : (needW (Jah t t.tabs.length) : Int) = t.need := Jic (fun _ hi => (h.sh hi).1) _ (Nat.le_refl _)
end
noncomputable def ldX (t : Tv) (x : Wv) : Tv := t.setTab x.1 (addL (t.r.ev x.1) (t.tab x.1) x.2.2)
def Pm.w (p : Pm) : Wv := (p.e.tier, p.e.shard, p.l)
theorem Jye (t : Tv) (x : Wv) : (ldX t x).tabs.length = t.tabs.length := Tv.setTab_len _ _ _
theorem Jsw (t : Tv) (x : Wv) (h : x.1 < t.tabs.length) : (ldX t x).tab x.1 = addL (t.r.ev x.1) (t.tab x.1) x.2.2 := Tv.setTab_same h
theorem Jph (t : Tv) (x : Wv) {i : Nat} (h : i ≠ x.1) : (ldX t x).tab i = t.tab i := Tv.setTab_other h
theorem Jsx (i : Nat) : ∀ (xs : List Wv) (t : Tv), ((xs.foldl ldX t).tab i).length <= (t.tab i).length + (xs.map fun x => x.2.2.length).sum
 | [], _ => Nat.le_refl _
 | x :: xs, t => by
   have h := Jsx i xs (ldX t x);show ((xs.foldl ldX (ldX t x)).tab i).length <= _;rw [List.map_cons, List.sum_cons]
   have : ((ldX t x).tab i).length <= (t.tab i).length + x.2.2.length := by
    by_cases e : i = x.1
    · subst e
      by_cases hi : x.1 < t.tabs.length
      · rw [Jsw t x hi]; exact Jih
      · have : (ldX t x).tab x.1 = [] := by
         unfold Tv.tab;rw [List.getD_eq_getElem?_getD, List.getElem?_eq_none (by rw [Jye]; omega)];rfl
        rw [this]; simp
    · rw [Jph t x e]; omega
   omega
theorem ldK {k n : Nat} {l : List Rc} (T : Tv) (hk : k < T.tabs.length) (h0 : T.tab k = []) (ho : l.Pairwise Rc.lt) (hr : ∀ r ∈ l, Jas (T.r.ev k) r = true) : ∀ q,
  ((Jdk k n l q).foldl ldX T).r = T.r /\ ((Jdk k n l q).foldl ldX T).tabs.length = T.tabs.length /\ ((Jdk k n l q).foldl ldX T).tab k = below n l q /\ ∀ i, i ≠ k -> ((Jdk k n l q).foldl ldX T).tab i = T.tab i
 | 0 => by
   unfold Jdk;exact ⟨rfl, rfl, by rw [Jug]; exact h0, fun _ _ => rfl⟩
 | q + 1 => by
   obtain ⟨h1, h2, h3, h4⟩ := ldK T hk h0 ho hr q (n := n);rw [Jd7, List.foldl_append];generalize (Jdk k n l q).foldl ldX T = V at *;by_cases e : Ja0 n l q = []
   · rw [if_pos e, Jna e]
     exact ⟨h1, h2, h3, h4⟩
   · rw [if_neg e]
     show (ldX V (k, q, Ja0 n l q)).r = _ /\ (ldX V (k, q, Ja0 n l q)).tabs.length = _ /\ (ldX V (k, q, Ja0 n l q)).tab k = _ /\ ∀ i, i ≠ k -> (ldX V (k, q, Ja0 n l q)).tab i = _;refine ⟨h1, by rw [Jye]; exact h2, ?_, fun i hi => by rw [Jph V (k, q, Ja0 n l q) hi]; exact h4 i hi⟩;have := Jsw V (k, q, Ja0 n l q) (by rw [h2]; exact hk);rw [h1, h3] at this;rw [show (ldX V (k, q, Ja0 n l q)).tab k = _ from this];exact Jx8 q ho hr
theorem ldTo {t : Tv} (hg : t.Good) (T : Tv) (hl : T.tabs.length = t.tabs.length) (h0 : ∀ i, T.tab i = []) (hev : ∀ i, T.r.ev i = t.r.ev i) : ∀ k, k <= t.tabs.length ->
  ((Jah t k).foldl ldX T).r = T.r /\ ((Jah t k).foldl ldX T).tabs.length = T.tabs.length /\ ∀ i, ((Jah t k).foldl ldX T).tab i = if i < k then t.tab i else []
 | 0, _ => by
   unfold Jah;exact ⟨rfl, rfl, fun i => h0 i⟩
 | k + 1, hk => by
   obtain ⟨h1, h2, h3⟩ := ldTo hg T hl h0 hev k (by omega);rw [Jdl, List.foldl_append];generalize (Jah t k).foldl ldX T = V at *;have hsh := hg.sh (show k < t.tabs.length by omega);obtain ⟨g1, g2, g3, g4⟩ := ldK (k := k) (n := (t.r.sh k).toNat) (l := t.tab k) V (by omega) (by rw [h3, if_neg (by omega)]) (hg.ord k (by omega)) (fun r hr => by rw [h1, hev]; exact (hg.fine k (by omega) r hr).2.1) (t.r.sh k).toNat;unfold Jue;refine ⟨g1.trans h1, g2.trans h2, fun i => ?_⟩;by_cases e : i = k
   · subst e
     rw [g3, Jx6 (by omega), if_pos (by omega)]
   · rw [g4 i e, h3]
     by_cases e2 : i < k
     · rw [if_pos e2, if_pos (by omega)]
     · rw [if_neg e2, if_neg (by omega)]
theorem Juj {t : Tv} (hg : t.Good) (fl : List Int) : (Jah t t.tabs.length).foldl ldX ⟨⟨t.r.now, t.r.nm, t.r.ts, fl⟩, List.replicate t.r.ts.length []⟩ = t.withFs fl := by
 have hl : (List.replicate t.r.ts.length ([] : List Rc)).length = t.tabs.length := by rw [List.length_replicate, hg.len]
 have h0 : ∀ i, Tv.tab ⟨⟨t.r.now, t.r.nm, t.r.ts, fl⟩, List.replicate t.r.ts.length []⟩ i = [] := fun i => by
  unfold Tv.tab;simp only [List.getD_eq_getElem?_getD, List.getElem?_replicate];split <;> rfl
 obtain ⟨h1, h2, h3⟩ := ldTo hg ⟨⟨t.r.now, t.r.nm, t.r.ts, fl⟩, List.replicate t.r.ts.length []⟩ hl h0 (fun _ => rfl) t.tabs.length (Nat.le_refl _);refine Tv.ext_tab h1 (h2.trans hl) (fun i hi => ?_);rw [h2, hl] at hi;rw [h3, if_pos hi];rfl
open Go.Maps
def shK (ms : List Em) : List Lit := ms.map fun m => plit (m.e.tier : Int) (m.e.shard : Int)
def blK (l : List Int) : List Lit := l.map (Lit.int .i64)
def Jdv (ms : List Em) : List Int := ms.flatMap fun m => m.e.bl
theorem J4d {l : List Int} {z : Int} : Lit.int .i64 z ∈ blK l ↔ z ∈ l := by
 unfold blK;rw [List.mem_map];constructor
 · rintro ⟨x, hx, e⟩; cases e; exact hx
 · intro h; exact ⟨z, h, rfl⟩
theorem J4e (ms : List Em) (h : ∀ m ∈ ms, m.e.bl.length <= 4096) : (Jdv ms).length <= 4096 * ms.length := by
 induction ms with
 | nil => simp [Jdv]
 | cons a r ih =>
   have h1 := h a (by simp);have h2 := ih (fun m hm => h m (by simp [hm]));unfold Jdv at *;rw [List.flatMap_cons, List.length_append, List.length_cons];omega
structure CVd (w wr : World) (cs : Array Value) (b1 b2 : Nat) (ks1 ks2 : List Lit) : Prop where
 bel : Below w.heap.size w wr
 box : Bx wr w.heap.size 88 cs
 s1 : KSet wr 3 b1 ks1
 s2 : KSet wr 349 b2 ks2
 low1 : w.heap.size < b1
 low2 : b1 < b2
section
variable {w wr w' : World} {cs : Array Value} {b1 b2 : Nat} {ks1 ks2 k : List Lit}
theorem CVd.below (h : CVd w wr cs b1 b2 ks1 ks2) (hb : Below wr.heap.size wr w') : CVd w w' cs b1 b2 ks1 ks2 := ⟨h.bel.trans (hb.mono h.bel.size), h.box.below hb, h.s1.below hb, h.s2.below hb, h.low1, h.low2⟩
theorem CVd.put2 (h : CVd w wr cs b1 b2 ks1 ks2) (hs : KSet w' 349 b2 (ks2 ++ k)) (hg : wr.grownBy w' (some b2)) : CVd w w' cs b1 b2 ks1 (ks2 ++ k) :=
 ⟨h.bel.grown hg h.bel.size (fun k e => by cases e; have := h.low1; have := h.low2; omega), h.box.grown hg (by have := h.low1; have := h.low2; simp; omega), h.s1.grown hg (by have := h.low2; simp; omega), hs, h.low1, h.low2⟩
theorem CVd.put1 (h : CVd w wr cs b1 b2 ks1 ks2) (hs : KSet w' 3 b1 (ks1 ++ k)) (hg : wr.grownBy w' (some b1)) : CVd w w' cs b1 b2 (ks1 ++ k) ks2 :=
 ⟨h.bel.grown hg h.bel.size (fun k e => by cases e; have := h.low1; omega), h.box.grown hg (by have := h.low1; simp; omega), hs, h.s2.grown hg (by have := h.low2; simp; omega), h.low1, h.low2⟩
end
theorem Jyf {F : Nat -> Prop} (g i : Nat) (now : Int) (nm : ByteArray) (A : Option Addr) (n c : Nat) (B : Option Addr) (c2 : Nat) (E : Option Addr) (en ec : Nat) (ts : List Ti) (fl : List Int) (ms : List Em) (w : World) (hg : 1 <= g) (hnow : 0 <= now /\ now <= 1099511627776) (hnm : nm.size <= maxLen) (h : Tis w A n ts) (hc : n <= c) (hck : Py.checkR nm.toList ts = (0, 0)) (hB : Ints w .i64 B n fl) (hfl : ∀ f ∈ fl, 0 <= f /\ f <= 4611686018427387904)
  (hE : Jg9 w F E en ms) (hen : en <= 90) (hok : ∀ m ∈ ms, m.e.Ok i) (hsh : (shK ms).Nodup) (hbl : (Jdv ms).Nodup) :
  Calls Tryz.prog 202 #[.agg (Jax g i now nm A n c B c2 E en ec)] w fun e w' => e = .returned (.bool true) /\ Below w.heap.size w w' := by
 have hb0 : Below w.heap.size w (w.alloc (.cells (Jax g i now nm A n c B c2 E en ec) 88)) := (Below.refl _ w).alloc (Nat.le_refl _) _;have b0 := Bx.new w 88 (Jax g i now nm A n c B c2 E en ec);have HPL := zI (Jwt g i now nm A n c B c2 E en ec ts fl _ hg hnow hnm (h.below hb0) hc hck (hB.below hb0) hfl);have HCH := zI (fun W => Jt3 g i now nm A n c B c2 E en ec W);have HEN := zI (fun W x (hx : Ints W .i64 x.A x.e.bl.length x.e.bl) (ho : x.e.Ok i) => Jwx g i now nm A n c B c2 E en ec x W hx ho);have HE := zI hE;have HLN := zI hE.len;have HOK := zI hok;have HSH := zI hsh;have HBL := zI hbl;have HX0 := zI b0;have HB0 := zI hb0;have d1 : decide ((90 : Int) < (en : Int)) = false := decide_eq_false (by omega);clear b0 hb0 h hB hck hfl hE hok hsh hbl hg hnow;obtain ⟨cs, hcs⟩ : ∃ cs, cs = Jax g i now nm A n c B c2 E en ec := ⟨_, rfl⟩;go_enter Tryz.func202, Tryz.ntmps202;go_wp2_with fail
 refine HPL.out.mono ?_;rintro e w1 ⟨rfl, hb1⟩;have HX1 := zI (HX0.out.below hb1);have HB1 := zI (HB0.out.trans (hb1.mono HB0.out.size));clear hb1;obtain ⟨x0, x1, x2, x3, x4, x5, x6, x7, x8, x9, x10, x11⟩ := Jbd HX1.out;go_wp2_with fail
 refine (HCH.out _).mono ?_;rintro e w2 ⟨rfl, hb2⟩;have HX2 := zI (HX1.out.below hb2);have HB2 := zI (HB1.out.trans (hb2.mono HB1.out.size));clear hb2 x0 x1 x2 x3 x4 x5 x6 x7 x8 x9 x10 x11;obtain ⟨x0, x1, x2, x3, x4, x5, x6, x7, x8, x9, x10, x11⟩ := Jbd HX2.out;have hmm := @run_makeMap Tryz.prog
 have HBX3 := zI (show CVd w ((w2.alloc (.map #[] 0)).alloc (.map #[] 0)) (Jax g i now nm A n c B c2 E en ec) w2.heap.size (w2.heap.size + 1) [] [] from by
  have hs := HB2.out.size;have hlt := HX2.out.lt;have h1 := (Below.refl w2.heap.size w2).alloc (Nat.le_refl _) (.map #[] 0);have hz : (w2.alloc (.map #[] 0)).heap.size = w2.heap.size + 1 := by simp
  have h2 := (Below.refl (w2.alloc (.map #[] 0)).heap.size (w2.alloc (.map #[] 0))).alloc (Nat.le_refl _) (.map #[] 0);refine ⟨(HB2.out.trans (h1.mono hs)).trans (h2.mono (by omega)), (HX2.out.below h1).below h2, (KSet.made w2 _).below h2, ?_, hlt, by omega⟩;have := KSet.made (w2.alloc (.map #[] 0)) 349;rw [hz] at this;exact this)
 have y11 := HBX3.out.box.at_ 11 (v := .slice E en ec) rfl;go_wp2_with fail
 clear y11;obtain ⟨w3, hw3⟩ : ∃ w3, w3 = (w2.alloc (.map #[] 0)).alloc (.map #[] 0) := ⟨_, rfl⟩;obtain ⟨b1, hb1⟩ : ∃ b1, b1 = w2.heap.size := ⟨_, rfl⟩;obtain ⟨b2, hb2⟩ : ∃ b2, b2 = w2.heap.size + 1 := ⟨_, rfl⟩;rw [<- hw3, <- hb2, <- hb1] at HBX3;rw [<- hw3, <- hb2, <- hb1];clear hw3 hb1 hb2 x0 x1 x2 x3 x4 x5 x6 x7 x8 x9 x10 x11;go_loopw [5, 29] (fun s j wr => ∃ k : Nat, k <= en /\ j = .int .i64 (k : Int) /\ s = .int .i64 ((Jdv (ms.take k)).length : Int) /\ CVd w wr (Jax g i now nm A n c B c2 E en ec) b1 b2 (blK (Jdv (ms.take k))) (shK (ms.take k))) (fun _ j _ => en - (intOf j).toNat)
 case atStart => exact ⟨0, Nat.zero_le _, rfl, rfl, HBX3.out⟩
 case round =>
  obtain ⟨k, hk, rfl, rfl, hV⟩ := hrel;by_cases hlt : k < en
  · have K : k < ms.length := by rw [HLN.out]; exact hlt
    obtain ⟨b, off, rfl, hbl, hcl⟩ := (HE.out.below hV.bel).get K;have HOX := zI (HOK.out _ (List.getElem_mem K));have HRX := zI (fun W (hW : Below w.heap.size w W) => ((HE.out.below hW).row _ (List.getElem_mem K)).1)
    have HS' := zI (show plit (ms[k].e.tier : Int) (ms[k].e.shard : Int) ∉ shK (ms.take k) from by
     have h1 := HSH.out;rw [<- List.take_append_drop k ms, List.drop_eq_getElem_cons K] at h1;unfold shK at h1 ⊢;rw [List.map_append, List.map_cons] at h1;have h2 := (List.nodup_append.1 h1).2.2;intro hm;exact h2 _ hm _ (by simp) rfl)
    have HB' := zI (show (Jdv (ms.take k) ++ ms[k].e.bl).Nodup from by
     have h1 := HBL.out;rw [<- List.take_append_drop k ms, List.drop_eq_getElem_cons K] at h1;unfold Jdv at h1 ⊢;rw [List.flatMap_append, List.flatMap_cons, <- List.append_assoc] at h1;exact (List.nodup_append.1 h1).1)
    have HN1 := zI (show Jdv (ms.take (k + 1)) = Jdv (ms.take k) ++ ms[k].e.bl from by
     unfold Jdv;rw [List.take_succ_eq_append_getElem K, List.flatMap_append, List.flatMap_cons, List.flatMap_nil, List.append_nil])
    have HN2 := zI (show shK (ms.take (k + 1)) = shK (ms.take k) ++ [plit (ms[k].e.tier : Int) (ms[k].e.shard : Int)] from by
     unfold shK;rw [List.take_succ_eq_append_getElem K, List.map_append]; rfl)
    have HL1 := zI (show (Jdv (ms.take k)).length <= 368640 from by
     have := J4e (ms.take k) (fun m hm => (HOK.out m (List.mem_of_mem_take hm)).len.2);rw [List.length_take] at this; omega)
    have HL2 := zI (show (shK (ms.take k)).length < 1000000 from by unfold shK; rw [List.length_map, List.length_take]; omega);generalize ms[k]'K = x at *;generalize Jdv (ms.take k) = l1 at *;generalize shK (ms.take k) = l2 at *;obtain ⟨⟨id, tier, shard, bl⟩, A5, c5⟩ := x;obtain ⟨r0, r1, r2, r3, r4, r5⟩ := hcl;dsimp only at r0 r1 r2 r3 r4 r5 HOX HRX HS' HB' HN1 HN2;obtain ⟨m, hm⟩ : ∃ m, m = bl.length := ⟨_, rfl⟩;rw [<- hm] at r4 r5 HRX;have HM := zI hm;have hm2 : m <= 4096 := by rw [hm]; exact HOX.out.len.2
    have hl1 := HL1.out;have htr : tier <= 9 := HOX.out.tier;have hsd : shard <= 7 := HOX.out.shard;have hba := (Below.refl wr.heap.size wr).alloc (Nat.le_refl _) (.cells #[.int .u64 (id : Int), .int .i64 (tier : Int), .int .i64 (shard : Int), .int .i64 0, .int .i64 (m : Int), .slice A5 m c5] 139);have HV4 := zI (hV.below hba);have HX4 := zI (Bx.new wr 139 #[.int .u64 (id : Int), .int .i64 (tier : Int), .int .i64 (shard : Int), .int .i64 0, .int .i64 (m : Int), .slice A5 m c5]);have HEN4 := zI (HEN.out _ ⟨⟨id, tier, shard, bl⟩, A5, c5⟩ (by dsimp only; rw [<- HM.out]; exact HRX.out _ HV4.out.bel) HOX.out);unfold Em.cells at HEN4;dsimp only at HEN4;rw [<- HM.out] at HEN4;have HWR := zI (Nat.lt_of_lt_of_le hV.box.lt (Nat.le_refl _));obtain ⟨gb, hgb⟩ : ∃ gb, gb = wr.heap.size := ⟨_, rfl⟩;have HLO := zI (show b1 < gb /\ b2 < gb from by rw [hgb]; exact ⟨hV.s1.lt, hV.s2.lt⟩);have x11' := hV.box.at_ 11 (v := .slice (some ⟨b, off, none⟩) en ec) rfl;clear hm hV hba;go_upto_region 8 with fail
    clear x11' r0 r1 r2 r3 r4 r5;obtain ⟨x0, x1, x2, x3, x4, x5, x6, x7, x8, x9, x10, x11⟩ := Jbd HV4.out.box;go_wp2_with fail
    refine HEN4.out.mono ?_;rintro e w5 ⟨rfl, hb5⟩;clear x0 x1 x2 x3 x4 x5 x6 x7 x8 x9 x10 x11;have HV5 := zI (HV4.out.below hb5);have HX5 := zI (HX4.out.below hb5);rw [<- hgb] at HX5 ⊢;clear hb5 hgb HX4 HV4 HEN4;have y1 := HX5.out.at_ 1 (v := .int .i64 (tier : Int)) rfl;have y2 := HX5.out.at_ 2 (v := .int .i64 (shard : Int)) rfl;have y5 := HX5.out.at_ 5 (v := .slice A5 m c5) rfl;go_upto_region 11 with (at_mapUpdate; refine Jr8 rfl _ _ _ rfl Jr9 Tryz.underlying347 rfl HV5.out.s2 HL2.out _ (plit (tier : Int) (shard : Int)) rfl rfl (Jmy (Jbz (by omega)) (Jbz (by omega))) HS'.out ?_; intro w6 hs6 hg6)
    have hlo := HLO.out;have HV6 := zI (HV5.out.put2 hs6 hg6);have HX6 := zI (HX5.out.grown hg6 (by simp; omega));rw [<- HN2.out] at HV6;have z5 := HX6.out.at_ 5 (v := .slice A5 m c5) rfl;clear hs6 hg6 y1 y2 y5 HX5 HV5;go_wp2_with fail
    obtain ⟨wo, hwo⟩ : ∃ wo : World, wo = wr := ⟨_, rfl⟩;obtain ⟨wi, hwi⟩ : ∃ wi : World, wi = w6 := ⟨_, rfl⟩;rw [<- hwi] at HV6 HX6 ⊢;rw [<- hwo] at hbl HWR;clear z5 hwi hwo;go_loopw [49] (fun j wq => ∃ q : Nat, q <= m /\ j = .int .i64 (q : Int) /\ CVd w wq (Jax g i now nm A n c B c2 (some ⟨b, off, none⟩) en ec) b1 b2 (blK (l1 ++ bl.take q)) (shK (ms.take (k + 1))) /\ Bx wq gb 139 #[.int .u64 (id : Int), .int .i64 (tier : Int), .int .i64 (shard : Int), .int .i64 0, .int .i64 (m : Int), .slice A5 m c5]) (fun j _ => m - (intOf j).toNat)
    case atStart => exact ⟨0, Nat.zero_le _, rfl, by simpa using HV6.out, HX6.out⟩
    case round =>
     obtain ⟨q, hq, rfl, hV7, hX7⟩ := hrel;by_cases hlq : q < m
     · have Q : q < bl.length := by rw [<- HM.out]; exact hlq
       obtain ⟨b', off', rfl, hbl', hcl'⟩ := (HRX.out _ hV7.bel).get Q;have HZ := zI (HOX.out.bl _ (List.getElem_mem Q))
       have HT1 := zI (show blK (l1 ++ bl.take (q + 1)) = blK (l1 ++ bl.take q) ++ [Lit.int .i64 bl[q]] from by
        unfold blK;rw [List.take_succ_eq_append_getElem Q, <- List.append_assoc, List.map_append]; rfl)
       have HNI := zI (show Lit.int .i64 bl[q] ∉ blK (l1 ++ bl.take q) from by
        rw [J4d];have h1 := HB'.out;rw [<- List.take_append_drop q bl, List.drop_eq_getElem_cons Q, <- List.append_assoc] at h1;intro hm;exact (List.nodup_append.1 h1).2.2 _ hm _ List.mem_cons_self rfl)
       have HL3 := zI (show (blK (l1 ++ bl.take q)).length < 1000000 from by unfold blK; rw [List.length_map, List.length_append, List.length_take]; omega);generalize bl[q]'Q = z at *;have hzw : (Lit.int .i64 z).wf = true := Jbz (by have := HZ.out; omega);have HV7 := zI hV7;have HX7 := zI hX7;clear hV7 hX7;go_wp2_with (at_mapUpdate; refine Jr8 rfl _ _ _ rfl (int_keyed Tryz.underlying3) Tryz.underlying103 rfl HV7.out.s1 HL3.out _ (Lit.int .i64 z) rfl rfl (keyOf_int_mk Tryz.underlying3 hzw) HNI.out ?_; intro w8 hs8 hg8)
       have HV8 := zI (HV7.out.put1 hs8 hg8);have HX8 := zI (HX7.out.grown hg8 (by simp; omega));rw [<- HT1.out] at HV8;clear hs8 hg8;go_wp2_with fail
       go_roundw
       case rel => exact ⟨q + 1, by omega, by go_num, HV8.out, HX8.out⟩
       case measure => simp [intOf]; omega
     · have hqe : q = m := by omega
       have HTE := zI (show l1 ++ bl.take q = Jdv (ms.take (k + 1)) from by rw [HN1.out, hqe, HM.out, List.take_length]);rw [HTE.out] at hV7;have HLE := zI (show (l1.length : Int) + (m : Int) = ((Jdv (ms.take (k + 1))).length : Int) from by rw [HN1.out, List.length_append, <- HM.out]; omega);have HWP := zI (show IntKind.i64.wrap ((l1.length : Int) + (m : Int)) = (l1.length : Int) + (m : Int) from IntWalk.i64_in _ (by omega));have HV9 := zI hV7;have t5 := hX7.at_ 5 (v := .slice A5 m c5) rfl;clear hV7 hX7;go_wp2_with fail
       go_roundw
       case rel => exact ⟨k + 1, by omega, by go_num, by rw [<- HLE.out], HV9.out⟩
       case measure => simp [intOf]; omega
  · have hke : k = en := by omega
    have HTE := zI (show ms.take k = ms from List.take_of_length_le (by rw [HLN.out]; omega));rw [HTE.out] at hV;rw [HTE.out];have q1 := fun ty => hV.s1.len Tryz.underlying103 ty;have q2 := fun ty => hV.s2.len Tryz.underlying347 ty;rw [show (shK ms).length = en from by unfold shK; rw [List.length_map, HLN.out]] at q2;rw [show (blK (Jdv ms)).length = (Jdv ms).length from by unfold blK; rw [List.length_map]] at q1;have y11 := hV.box.at_ 11 (v := .slice E en ec) rfl;have HBE := zI hV.bel;generalize (Jdv ms).length = N at *;clear hV;go_wp2_with fail
    go_ret;exact ⟨rfl, HBE.out⟩
end Go.Proofs.YtalkkhafcfhglaaGreatDoor
namespace Go.Proofs.YtalkkhafcfhglaaGreatDoor
open Go.RowKit
section
variable {w0 w : World} {g B : Nat} {l : List UInt8}
theorem LayW.ints_old (h : LayW w0 w g l) (A : Option Addr) (n c : Nat) (vs : List Int) (hs : Ints w0 .i64 A n vs) (h1 : 1 <= n) (hl : l.length + 8 * n <= 800000) :
  Calls Tryz.prog 196 #[.pointer (some ⟨g, 0, none⟩), .slice A n c] w fun e w' => e = .returned (.tuple #[]) /\ LayW w0 w' g (l ++ vs.flatMap fun v => le 8 (u64 v)) := by
 have hne : vs.map (Value.int .i64) ≠ [] := fun e => by have := congrArg List.length e; rw [List.length_map, hs.len] at this; simp at this; omega
 refine (Jm0 w0.heap.size g A n c vs l w h.at_ (h.old hs.sl hne) (h.sl hs.sl) hs.len hl h.size).mono ?_;rintro e w' ⟨rfl, hp, hs⟩;exact ⟨rfl, h.st (Below.refl _ _) hp hs⟩
theorem LayW.small_nil (h : LayW w0 w g l) (size : Nat) (hz : Jds size) (hl : l.length <= 800000) :
  Calls Tryz.prog 206 #[.pointer (some ⟨g, 0, none⟩), .int .i64 (size : Int), .slice none 0 0] w fun e w' => e = .returned (.tuple #[]) /\ LayW w0 w' g l := by
 refine (Jfg w0.heap.size g size none 0 0 [] l w h.at_ hz (by simp) ⟨fun a e => by cases e⟩ ⟨fun h => absurd rfl h⟩ rfl (by omega) h.size).mono ?_;rintro e w' ⟨rfl, hp, hs⟩;have := h.st (Below.refl _ _) hp hs;simp only [List.flatMap_nil, List.append_nil] at this;exact ⟨rfl, this⟩
theorem LayW.small_old (h : LayW w0 w g l) (size : Nat) (hz : Jds size) (A : Option Addr) (n c : Nat) (vs : List Int) (hs : Ints w0 .i64 A n vs) (h1 : 1 <= n) (hv : ∀ v ∈ vs, 0 <= v /\ v < ((256 ^ size : Nat) : Int)) (hl : l.length + 4 * n <= 900000) :
  Calls Tryz.prog 206 #[.pointer (some ⟨g, 0, none⟩), .int .i64 (size : Int), .slice A n c] w fun e w' => e = .returned (.tuple #[]) /\ LayW w0 w' g (l ++ vs.flatMap fun v => le size v.toNat) := by
 have hm : vs.map (Value.int .i64) = (vs.map Int.toNat).map fun v : Nat => Value.int .i64 (v : Int) := by
  rw [List.map_map];refine List.map_congr_left fun v hv' => ?_;show Value.int .i64 v = Value.int .i64 ((v.toNat : Nat) : Int);rw [Int.toNat_of_nonneg (hv v hv').1]
 have hsl : Sl w0 A ((vs.map Int.toNat).map fun v : Nat => Value.int .i64 (v : Int)) := by rw [<- hm]; exact hs.sl
 have hne : (vs.map Int.toNat).map (fun v : Nat => Value.int .i64 (v : Int)) ≠ [] := fun e => by have := congrArg List.length e; rw [List.length_map, List.length_map, hs.len] at this; simp at this; omega
 refine (Jfg w0.heap.size g size A n c (vs.map Int.toNat) l w h.at_ hz (fun v hv' => ?_) (h.old hsl hne) (h.sl hsl) (by rw [List.length_map]; exact hs.len) hl h.size).mono ?_
 · obtain ⟨x, hx, rfl⟩ := List.mem_map.1 hv'
   have := hv x hx;omega
 rintro e w' ⟨rfl, hp, hs⟩;have := h.st (Below.refl _ _) hp hs;rw [List.flatMap_map] at this;exact ⟨rfl, this⟩
theorem LayW.len (h : LayW w0 w g l) : Calls Tryz.prog 207 #[.pointer (some ⟨g, 0, none⟩)] w fun e w' => e = .returned (.int .i64 (l.length : Int)) /\ w = w' := J0y _ _ _ _ h.at_
def LayK (g : Nat) (w w' : World) : Prop := ∀ b T cs, b ≠ g -> T ≠ 5 -> Bx w b T cs -> Bx w' b T cs
theorem LayK.of {w1 w' : World} (hb : Below w.heap.size w w1) (hs : PkSt B g w1 w') : LayK g w w' := fun b T cs hne hT hx => by
 have h1 := hx.below hb;refine ⟨(hs.block b h1.lt hne (.inr fun cs' fr e => ?_)).trans h1.blk⟩;rw [h1.blk] at e;cases e
 exact hT rfl
theorem LayW.wordsK (h : LayW w0 w g l) (vs : List Nat) (n c : Nat) (cs : Array Value) (hcs : cs.toList = vs.map fun v : Nat => Value.int .u64 (v : Int)) (hn : vs.length = n) (hl : l.length + 8 * n <= 900000) :
  Calls Tryz.prog 195 #[.pointer (some ⟨g, 0, none⟩), .slice (some ⟨w.heap.size, 0, none⟩) n c] (w.alloc (.cells cs 43)) fun e w' => e = .returned (.tuple #[]) /\ LayW w0 w' g (l ++ vs.flatMap (le 8)) /\ LayK g w w' := by
 have hb := (Below.refl w.heap.size w).alloc (Nat.le_refl _) (.cells cs 43);refine (Jhb w0.heap.size g _ n c vs l _ (h.at_.below hb) (h.arg _ cs (by decide)) (Sl.new w _ _ _ cs rfl hcs) hn hl (Nat.le_trans h.size hb.size)).mono ?_;rintro e w' ⟨rfl, hp, hs⟩;exact ⟨rfl, h.st hb hp hs, LayK.of hb hs⟩
theorem LayW.smallK (h : LayW w0 w g l) (size : Nat) (hz : Jds size) (vs : List Nat) (hv : ∀ v ∈ vs, v < 256 ^ size) (n c : Nat) (cs : Array Value) (hcs : cs.toList = vs.map fun v : Nat => Value.int .i64 (v : Int)) (hn : vs.length = n) (hl : l.length + 4 * n <= 900000) :
  Calls Tryz.prog 206 #[.pointer (some ⟨g, 0, none⟩), .int .i64 (size : Int), .slice (some ⟨w.heap.size, 0, none⟩) n c] (w.alloc (.cells cs 3)) fun e w' => e = .returned (.tuple #[]) /\ LayW w0 w' g (l ++ vs.flatMap (le size)) /\ LayK g w w' := by
 have hb := (Below.refl w.heap.size w).alloc (Nat.le_refl _) (.cells cs 3);refine (Jfg w0.heap.size g size _ n c vs l _ (h.at_.below hb) hz hv (h.arg _ cs (by decide)) (Sl.new w _ _ _ cs rfl hcs) hn hl (Nat.le_trans h.size hb.size)).mono ?_;rintro e w' ⟨rfl, hp, hs⟩;exact ⟨rfl, h.st hb hp hs, LayK.of hb hs⟩
end
def gB : Nat := 3 + 1
theorem J5e : 0 < gB := by decide
structure Glo (w : World) : Prop where
 m : ∃ m : Int, w.cell? ⟨0, 0, none⟩ = some (.int .i64 m)
 tab : Lib.TabIs Tryz.prog w "internal/strconv.uint64pow10" .u64 Lib.pow10Tab
theorem Glo.of_eq {w w' : World} (h : Glo w) (he : ∀ b, b < w.heap.size -> b < gB -> w'.heap[b]? = w.heap[b]?) (hg : ∀ g, Tryz.prog.globalNamed "internal/strconv.uint64pow10" = some g -> g < gB) : Glo w' := by
 refine ⟨?_, ?_⟩
 · obtain ⟨m, hm⟩ := h.m
   have h0 := block_lt_of_cell hm;exact ⟨m, (World.cell?_of_block (w := w) (a := ⟨0, 0, none⟩) (he 0 h0 J5e)).trans hm⟩
 · have ht := h.tab
   unfold Lib.TabIs at ht ⊢;unfold World.var? at ht ⊢;cases hn : Tryz.prog.globalNamed "internal/strconv.uint64pow10" with
   | none => rw [hn] at ht; simp at ht
   | some g =>
     rw [hn] at ht;simp only [Option.bind_some] at ht ⊢
     have hlt : g < w.heap.size := by
      cases hb : w.heap[g]? with
      | none => rw [hb] at ht; simp at ht
      | some o => exact (Array.getElem?_eq_some_iff.1 hb).1
     rw [he g hlt (hg g hn)];exact ht
theorem Jyg : ∀ g, Tryz.prog.globalNamed "internal/strconv.uint64pow10" = some g -> g < gB := by
 intro g hg;have h : (Tryz.prog.globalNamed "internal/strconv.uint64pow10").all (fun g => decide (g < gB)) = true := by kernel_rfl
 rw [hg] at h
 simpa using h
theorem Glo.below {w w' : World} (h : Glo w) (hb : Below w.heap.size w w') : Glo w' := h.of_eq (fun b hlt _ => hb.block b hlt) Jyg
theorem Glo.chg {w w' : World} {F : Nat -> Prop} (h : Glo w) (hc : Chg F w w') (hF : ∀ b, F b -> gB <= b) : Glo w' := h.of_eq (fun b hlt h2 => hc.block b hlt (fun hf => by have := hF b hf; omega)) Jyg
theorem Glo.low {w : World} (h : Glo w) : gB <= w.heap.size := by
 have ht := h.tab;unfold Lib.TabIs World.var? at ht;have hn : Tryz.prog.globalNamed "internal/strconv.uint64pow10" = some 3 := by kernel_rfl
 rw [hn] at ht;simp only [Option.bind_some] at ht;cases hb : w.heap[3]? with
 | none => rw [hb] at ht; simp at ht
 | some o => exact (Array.getElem?_eq_some_iff.1 hb).1
end Go.Proofs.YtalkkhafcfhglaaGreatDoor
