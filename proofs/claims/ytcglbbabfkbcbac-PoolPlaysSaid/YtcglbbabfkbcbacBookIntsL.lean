/-
  sedimentbook at Ints: lists with room behind them. (gen_book.py prints this.)
-/
import Derived.Test.YtcglbbabfkbcbacBookInts
namespace Go.Proofs.Ytcglbbabfkbcbac
open Go.RowKit Go.Deep
def lentInts : Int := -77

set_option maxRecDepth 100000 in
set_option maxHeartbeats 2000000 in
theorem lentInts_any (A : Option Addr) (n c : Nat) (l : List Int) (w : World) (h : Sl w A (l.flatMap encInts)) (hl : l.length = n) (hn : n ≤ 100000) :
    Calls Try.prog 8 #[.slice A n c] w fun e w' => ∃ g cap, e = .returned (.slice (some ⟨g, 0, none⟩) n cap) ∧ w'.ownsRow w.heap.size 3 1 (.slice (some ⟨g, 0, none⟩) (n + 1) cap) (n + 1) ((l ++ [lentInts]).flatMap encInts) ∧ Below w.heap.size w w' := by
  obtain ⟨i0, hi0, hz0, hz1, hz2⟩ := info_parts info_Ints
  have HI := Lib.hid hi0
  have HI0 := Lib.hid hz0
  have HI1 := Lib.hid hz1
  have HI2 := Lib.hid hz2
  clear hi0 hz0 hz1 hz2
  have HCL := Lib.hid (show (l.flatMap encInts).length = n * 1 from by rw [rowK_len encInts_len, hl])
  have HON := Lib.hid (encInts_one l)
  have HON2 := Lib.hid (encInts_one [lentInts])
  have HS := Lib.hid h
  have HCS := Lib.hid (show [lentInts].flatMap encInts = [.int .i64 (-77)] from by simp [lentInts, encInts])
  clear h hl
  go_enter Try.func8, Try.ntmps8
  go_wp2_with (first
    | (at_builtin; refine wpList_append_sl _ rfl _ _ 43 rfl w.heap.size 3 i0 _ 1 8 Try.underlying43 HI.out HI0.out HI1.out HI2.out rfl (by decide) (.slice A4 n c4) n _ rfl R4.out (some ⟨w4.heap.size, 0, none⟩) 1 1 [.int .i64 (-77)] rfl rfl HS4.out HO4.out ?d4 ?d5 ?d6 ?_
       (unfold maxLen; omega)
       (omega)
       (simp; omega)
       intro v5 w5 hown5 hg5 hat5
       have H5 := Lib.hid hown5
       have hcap : ∃ g cap, v5 = .slice (some ⟨g, 0, none⟩) (n + 1) cap ∧ n + 1 ≤ cap := by
         rcases hown5.2 with ⟨_, h0⟩ | ⟨g, cap, cur, rfl, _, _, h1, _⟩
         · exact absurd h0 (by omega)
         · exact ⟨g, cap, rfl, h1⟩
       obtain ⟨g, cap, rfl, hcap⟩ := hcap
       clear hown5)
    | (at_builtin; refine wpList_append_sl _ rfl _ _ 43 rfl w.heap.size 3 i0 _ 1 8 Try.underlying43 HI.out HI0.out HI1.out HI2.out rfl (by decide) (.slice none 0 0) 0 [] rfl (World.ownsRow_nil _ _ _ _) A n c _ rfl HCL.out HS.out HON.out ?c4 ?c5 ?c6 ?_
       (unfold maxLen; omega)
       (omega)
       (exact Nat.le_refl _)
       intro v4 w4 hown4 hg4 _
       rw [Nat.zero_add, List.nil_append] at hown4
       obtain ⟨A4, c4, rfl, _⟩ := bk_sl hown4
       have hb4 : Below w.heap.size w w4 := (Below.refl _ _).grown hg4 (Nat.le_refl _) (fun q hq => by simp [Value.ownBlock] at hq)
       have hz4 := hb4.size
       have ha4 := (Below.refl w4.heap.size w4).alloc (Nat.le_refl _) (.cells #[.int .i64 (-77)] 3)
       have R4 := Lib.hid (bk_below hown4 ha4)
       have HS4 := Lib.hid (Sl.new w4 3 w4.heap.size [.int .i64 (-77)] #[.int .i64 (-77)] rfl rfl)
       have HO4 := Lib.hid (show ∀ u ∈ ([.int .i64 (-77)] : List Value), u.oneCell' = true from by rw [← HCS.out]; exact HON2.out)
       have HB4 := Lib.hid (hb4.trans (ha4.mono hz4))
       clear hown4 hb4 ha4))
  go_ret
  refine ⟨_, _, rfl, by rw [List.flatMap_append, HCS.out]; exact H5.out, HB4.out.grown hg5 (by simp; omega) (fun q hq => (R4.out.lt q hq).1)⟩
set_option maxRecDepth 100000 in
set_option maxHeartbeats 2000000 in
theorem staysInts_any (g cap n B c : Nat) (A : Option Addr) (l : List Int) (w : World) (h : w.ownsRow B 3 1 (.slice (some ⟨g, 0, none⟩) (n + 1) cap) (n + 1) ((l ++ [lentInts]).flatMap encInts)) (hW : Ints w .i64 A n l) (hl : l.length = n) (hok : ∀ t ∈ l, (Lit.int .i64 t).wf = true) (hn : n ≤ 100000) :
    Calls Try.prog 18 #[.slice (some ⟨g, 0, none⟩) n cap, .slice A n c] w fun e w' => e = .returned (.bool true) ∧ Below w.heap.size w w' := by
  obtain ⟨A1, c1, e1, hs1⟩ := bk_sl h
  cases e1
  rw [List.flatMap_append] at hs1
  have HV := Lib.hid (viewInts hs1.left hl (by omega) hok)
  have hcap : n + 1 ≤ cap := by
    rcases h.2 with ⟨e, _⟩ | ⟨g', cap', cur, e, _, _, h1, _⟩
    · cases e
    · cases e; exact h1
  have hcc : w.cell? ⟨g, n * 1 + 0, none⟩ = ([.int .i64 (-77)] : List Value)[0]? := by
    rw [h.cellAt (n * 1 + 0) (by omega), ← hl, bk_last encInts_len]
    rfl
  have hgl : g < w.heap.size := (h.lt g rfl).2
  have HCC := Lib.hid (show ∀ W, Below w.heap.size w W → W.cell? ⟨g, n, none⟩ = some (.int .i64 (-77)) from fun W hW => (hW.cell (p := ⟨g, n, none⟩) hgl).trans (by have h := hcc; rw [Nat.mul_one, Nat.add_zero] at h; exact h))
  have HWW := Lib.hid hW
  clear hs1 hcc h hl hok hW
  go_enter Try.func18, Try.ntmps18
  go_wp2_with (go_at_call 15; refine (likeInts_any _ _ n cap c l w HV.out HWW.out).mono ?_; rintro e w1 ⟨rfl, q1, rfl⟩; have hb1 := below_drewN (Below.refl w.heap.size w) q1; have x1 := HCC.out _ hb1)
  go_ret
  exact ⟨rfl, hb1⟩

end Go.Proofs.Ytcglbbabfkbcbac
