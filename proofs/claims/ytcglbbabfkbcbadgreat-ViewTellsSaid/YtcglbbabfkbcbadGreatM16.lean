/-
  Several texts in one: BookSamplesL, ViewTellsC, ViewTellsD.
-/
import Derived.Test.YtcglbbabfkbcbadGreatBookSamples
import Derived.Test.YtcglbbabfkbcbadGreatViewTellsB
import Derived.Test.YtcglbbabfkbcbadGreatViewCount
import Derived.Test.YtcglbbabfkbcbadGreatViewSum
import Derived.Test.YtcglbbabfkbcbadGreatM15
/- sedimentbook at Samples: lists with room behind them. (gen_book.py prints this.) -/
namespace Go.Proofs.YtcglbbabfkbcbadGreat
open Go.RowKit Go.Deep
def lentSamples : Smp := ⟨ByteArray.empty, -77, 0⟩

set_option maxRecDepth 100000 in
set_option maxHeartbeats 2000000 in
theorem lentSamples_any (A : Option Addr) (n c : Nat) (l : List Smp) (w : World) (h : Sl w A (l.flatMap Smp.cells)) (hl : l.length = n) (hn : n ≤ 100000) :
    Calls Tryz.prog 8 #[.slice A n c] w fun e w' => ∃ g cap, e = .returned (.slice (some ⟨g, 0, none⟩) n cap) ∧ w'.ownsRow w.heap.size 76 3 (.slice (some ⟨g, 0, none⟩) (n + 1) cap) (n + 1) ((l ++ [lentSamples]).flatMap Smp.cells) ∧ Below w.heap.size w w' := by
  obtain ⟨i0, hi0, hz0, hz1, hz2⟩ := info_parts info_smpB
  have HI := Lib.hid hi0
  have HI0 := Lib.hid hz0
  have HI1 := Lib.hid hz1
  have HI2 := Lib.hid hz2
  clear hi0 hz0 hz1 hz2
  have HCL := Lib.hid (show (l.flatMap Smp.cells).length = n * 3 from by rw [rowK_len smp_len, hl])
  have HON := Lib.hid (smps_one l)
  have HON2 := Lib.hid (smps_one [lentSamples])
  have HS := Lib.hid h
  have HCS := Lib.hid (show [lentSamples].flatMap Smp.cells = [.string ⟨#[]⟩, .int .i64 (-77), .int .i64 0] from by simp [lentSamples, Smp.cells]; rfl)
  clear h hl
  go_enter Tryz.func8, Tryz.ntmps8
  go_wp2_with (first
    | (at_builtin; refine wpList_append_sl _ rfl _ _ 26 rfl w.heap.size 76 i0 _ 3 32 Tryz.underlying26 HI.out HI0.out HI1.out HI2.out rfl (by decide) (.slice A4 n c4) n _ rfl R4.out (some ⟨w4.heap.size, 0, none⟩) 1 1 [.string ⟨#[]⟩, .int .i64 (-77), .int .i64 0] rfl rfl HS4.out HO4.out ?d4 ?d5 ?d6 ?_
       (unfold maxLen; omega)
       (omega)
       (simp; omega)
       intro v5 w5 hown5 hg5 hat5
       have H5 := Lib.hid hown5
       have hcap : ∃ g cap, v5 = .slice (some ⟨g, 0, none⟩) (n + 1) cap ∧ n + 1 ≤ cap := by
         rcases hown5.2 with ⟨_, h0⟩ | ⟨g, cap, cur, rfl, _, _, h1, _⟩
         · exact absurd h0 (by omega)
         · exact ⟨g, cap, rfl, h1⟩
       obtain ⟨g, cap, rfl, hcap⟩ := hcap
       clear hown5)
    | (at_builtin; refine wpList_append_sl _ rfl _ _ 26 rfl w.heap.size 76 i0 _ 3 32 Tryz.underlying26 HI.out HI0.out HI1.out HI2.out rfl (by decide) (.slice none 0 0) 0 [] rfl (World.ownsRow_nil _ _ _ _) A n c _ rfl HCL.out HS.out HON.out ?c4 ?c5 ?c6 ?_
       (unfold maxLen; omega)
       (omega)
       (exact Nat.le_refl _)
       intro v4 w4 hown4 hg4 _
       rw [Nat.zero_add, List.nil_append] at hown4
       obtain ⟨A4, c4, rfl, _⟩ := bk_sl hown4
       have hb4 : Below w.heap.size w w4 := (Below.refl _ _).grown hg4 (Nat.le_refl _) (fun q hq => by simp [Value.ownBlock] at hq)
       have hz4 := hb4.size
       have ha4 := (Below.refl w4.heap.size w4).alloc (Nat.le_refl _) (.cells #[.string ⟨#[]⟩, .int .i64 (-77), .int .i64 0] 76)
       have R4 := Lib.hid (bk_below hown4 ha4)
       have HS4 := Lib.hid (Sl.new w4 76 w4.heap.size [.string ⟨#[]⟩, .int .i64 (-77), .int .i64 0] #[.string ⟨#[]⟩, .int .i64 (-77), .int .i64 0] rfl rfl)
       have HO4 := Lib.hid (show ∀ u ∈ ([.string ⟨#[]⟩, .int .i64 (-77), .int .i64 0] : List Value), u.oneCell' = true from by rw [← HCS.out]; exact HON2.out)
       have HB4 := Lib.hid (hb4.trans (ha4.mono hz4))
       clear hown4 hb4 ha4))
  go_ret
  refine ⟨_, _, rfl, by rw [List.flatMap_append, HCS.out]; exact H5.out, HB4.out.grown hg5 (by simp; omega) (fun q hq => (R4.out.lt q hq).1)⟩
set_option maxRecDepth 100000 in
set_option maxHeartbeats 2000000 in
theorem staysSamples_any (g cap n B c : Nat) (A : Option Addr) (l : List Smp) (w : World) (h : w.ownsRow B 76 3 (.slice (some ⟨g, 0, none⟩) (n + 1) cap) (n + 1) ((l ++ [lentSamples]).flatMap Smp.cells)) (hW : Smps w A n l) (hl : l.length = n) (hok : ∀ t ∈ l, t.Ok) (hn : n ≤ 100000) :
    Calls Tryz.prog 18 #[.slice (some ⟨g, 0, none⟩) n cap, .slice A n c] w fun e w' => e = .returned (.bool true) ∧ Below w.heap.size w w' := by
  obtain ⟨A1, c1, e1, hs1⟩ := bk_sl h
  cases e1
  rw [List.flatMap_append] at hs1
  have HV := Lib.hid (viewSamples hs1.left hl (by omega) hok)
  have hcap : n + 1 ≤ cap := by
    rcases h.2 with ⟨e, _⟩ | ⟨g', cap', cur, e, _, _, h1, _⟩
    · cases e
    · cases e; exact h1
  have hcc : w.cell? ⟨g, n * 3 + 1, none⟩ = ([.string ⟨#[]⟩, .int .i64 (-77), .int .i64 0] : List Value)[1]? := by
    rw [h.cellAt (n * 3 + 1) (by omega), ← hl, bk_last smp_len]
    rfl
  have hgl : g < w.heap.size := (h.lt g rfl).2
  have HCC := Lib.hid (show ∀ W, Below w.heap.size w W → W.cell? ⟨g, n * 3 + 1, none⟩ = some (.int .i64 (-77)) from fun W hW => (hW.cell (p := ⟨g, n * 3 + 1, none⟩) hgl).trans hcc)
  have HWW := Lib.hid hW
  clear hs1 hcc h hl hok hW
  go_enter Tryz.func18, Tryz.ntmps18
  go_wp2_with (go_at_call 39; refine (likeSamples_any _ _ n cap c l w HV.out HWW.out).mono ?_; rintro e w1 ⟨rfl, q1, rfl⟩; have hb1 := below_drewN (Below.refl w.heap.size w) q1; have x1 := HCC.out _ hb1)
  go_ret
  exact ⟨rfl, hb1⟩

end Go.Proofs.YtcglbbabfkbcbadGreat
/- ViewTells: reading what view.All and view.Count answered; the sums of counts; the law's own words. -/
namespace Go.Proofs.YtcglbbabfkbcbadGreat
open Go.RowKit Go.Deep

theorem VRows.slice' {w : World} {B : Nat} {v : Value} {vs : List Value} {Ls : List (List Rc)} (h : VRows w B v vs Ls) : ∃ A c, v = .slice A Ls.length c := by
  obtain ⟨A, c, e, _⟩ := own_sl h.own
  exact ⟨A, c, by rw [e, h.len]⟩
/-- One list of view.All's. -/
theorem vt_at {w : World} {C n cc : Nat} {AA : Option Addr} {vs : List Value} {r : Rch} {l : List Smp} (h : VRows w C (.slice AA n cc) vs (viewAll r l n)) {j : Nat} (hj : j < n) :
    ∃ g off A cj, AA = some ⟨g, off, none⟩ ∧ g < w.heap.size ∧ w.cell? ⟨g, off + j, none⟩ = some (.slice A (viewL r j l).length cj) ∧ w.ownsRow C 61 7 (.slice A (viewL r j l).length cj) (viewL r j l).length ((viewL r j l).flatMap Rc.cells) ∧ ∃ h : j < vs.length, vs[j] = .slice A (viewL r j l).length cj := by
  have hlen := h.len
  rw [viewAll_len] at hlen
  have hj' : j < vs.length := by omega
  have hl' : j < (viewAll r l n).length := by rw [viewAll_len]; exact hj
  have e : (viewAll r l n)[j]'hl' = viewL r j l := by simp [viewAll]
  obtain ⟨A', c', e1, hs⟩ := own_sl h.own
  cases e1
  obtain ⟨g, off, rfl, hg, hc⟩ := hs.get hj'
  have he := h.each j hj' hl'
  rw [e] at he
  obtain ⟨Aj, cj, e2, _⟩ := own_sl he
  rw [e2] at hc he
  exact ⟨g, off, Aj, cj, rfl, hg, hc, he, hj', e2⟩
theorem vt_cell {w : World} {C n cc g off : Nat} {vs : List Value} {r : Rch} {l : List Smp} {v : Value} (h : VRows w C (.slice (some ⟨g, off, none⟩) n cc) vs (viewAll r l n)) {j : Nat} (hj : j < vs.length) (e : vs[j] = v) :
    w.cell? ⟨g, off + j, none⟩ = some v ∧ w.ownsRow C 61 7 v (viewL r j l).length ((viewL r j l).flatMap Rc.cells) := by
  have hlen := h.len
  rw [viewAll_len] at hlen
  obtain ⟨g2, off2, A, cj, e1, _, hc, ho, hj2, e2⟩ := vt_at h (j := j) (by omega)
  cases e1
  rw [e2] at e
  subst e
  exact ⟨hc, ho⟩
theorem vt_count {w : World} {C n cc : Nat} {AN : Option Addr} {r : Rch} {l : List Smp} (h : w.ownsRow C 3 1 (.slice AN n cc) n ((countL r l n).map (Value.int .i64))) {j : Nat} (hj : j < n) :
    ∃ g off, AN = some ⟨g, off, none⟩ ∧ g < w.heap.size ∧ w.cell? ⟨g, off + j, none⟩ = some (.int .i64 ((recsOf r j l).length : Int)) := by
  obtain ⟨A', c', e1, hs⟩ := own_sl h
  cases e1
  obtain ⟨g, off, rfl, hg, hc⟩ := hs.get (j := j) (by simp [countL_len]; exact hj)
  refine ⟨g, off, rfl, hg, ?_⟩
  rw [hc]
  unfold countL
  simp
theorem lent_smps {w : World} {B g cap n : Nat} {l : List Smp} (h : w.ownsRow B 76 3 (.slice (some ⟨g, 0, none⟩) (n + 1) cap) (n + 1) ((l ++ [lentSamples]).flatMap Smp.cells)) (hl : l.length = n) (hn : n ≤ 100000) (hok : ∀ t ∈ l, t.Ok) : Smps w (some ⟨g, 0, none⟩) n l := by
  obtain ⟨A, c, e, hs⟩ := bk_sl h
  cases e
  rw [List.flatMap_append] at hs
  exact ⟨Sl.left hs, hl, by unfold maxLen; omega, hok⟩
/-- The counts of the first records, summed up. -/
def psum (l : List Rc) (j : Nat) : Int := ((l.take j).map fun x => x.ag.c).sum
theorem psum_zero (l : List Rc) : psum l 0 = 0 := by simp [psum]
theorem psum_succ {l : List Rc} {j : Nat} (h : j < l.length) : psum l (j + 1) = psum l j + l[j].ag.c := by
  unfold psum
  rw [List.take_add_one, List.getElem?_eq_getElem h, List.map_append, List.sum_append]
  simp
theorem psum_bd : ∀ {l : List Rc}, (∀ x ∈ l, 1 ≤ x.ag.c) → ∀ j, 0 ≤ psum l j ∧ psum l j ≤ (l.map fun x => x.ag.c).sum
  | [], _, j => by simp [psum]
  | x :: r, h, 0 => by
    have h1 := h x (by simp)
    have h2 := psum_bd (l := r) (fun y hy => h y (by simp [hy])) 0
    simp only [psum, List.take_zero, List.map_nil, List.sum_nil, List.map_cons, List.sum_cons] at h2 ⊢
    omega
  | x :: r, h, j + 1 => by
    have h1 := h x (by simp)
    have h2 := psum_bd (l := r) (fun y hy => h y (by simp [hy])) j
    simp only [psum, List.take_succ_cons, List.map_cons, List.sum_cons] at h2 ⊢
    omega
theorem view_cnt (r : Rch) (i : Int) (l : List Smp) (hok : ∀ s ∈ l, s.Ok) : ∀ x ∈ viewL r i l, 1 ≤ x.ag.c := fun x hx => ((view_tab r i l hok).v x hx).cnt.1
theorem view_psum (r : Rch) (i : Int) (l : List Smp) (hok : ∀ s ∈ l, s.Ok) (hl : l.length ≤ 100000) (j : Nat) : 0 ≤ psum (viewL r i l) j ∧ psum (viewL r i l) j ≤ 100000 := by
  have h1 := psum_bd (view_cnt r i l hok) j
  rw [view_sum r i l hok hl] at h1
  have h2 := recs_len r i l
  omega
theorem view_pall (r : Rch) (i : Int) (l : List Smp) (hok : ∀ s ∈ l, s.Ok) (hl : l.length ≤ 100000) : psum (viewL r i l) (viewL r i l).length = ((recsOf r i l).length : Int) := by
  unfold psum
  rw [List.take_length, view_sum r i l hok hl]
theorem ask_len' (r : Rch) (s : ByteArray) (f t : Int) (l : List Smp) : (askL r s f t l).length ≤ l.length :=
  Nat.le_trans (List.length_filter_le _ _) (view_len r _ l)
theorem ask_ok' (r : Rch) (s : ByteArray) (f t : Int) (l : List Smp) (h : ∀ s ∈ l, s.Ok) : ∀ x ∈ askL r s f t l, x.Ok := fun x hx => view_ok r _ l h x (List.mem_filter.1 hx).1
theorem ask_range (r : Rch) (s : ByteArray) (f t : Int) (l : List Smp) : rangeTo s f t (viewL r (r.cover f) l) (viewL r (r.cover f) l).length = askL r s f t l := by
  unfold rangeTo askL
  rw [List.take_length]
theorem countL_wf (r : Rch) (l : List Smp) (n : Nat) (hl : l.length ≤ 100000) : ∀ t ∈ countL r l n, (Lit.int .i64 t).wf = true := by
  intro t ht
  unfold countL at ht
  obtain ⟨i, _, rfl⟩ := List.mem_map.1 ht
  have := recs_len r i l
  have e1 : IntKind.i64.min = -9223372036854775808 ∧ IntKind.i64.max = 9223372036854775807 := by decide
  simp [Lit.wf, e1.1, e1.2]
  omega
theorem asks_yes {s : ByteArray} {a b : Int} (h : asksE s a b = 0) : validB s.toList = true ∧ 0 ≤ a ∧ a ≤ b := by
  unfold asksE at h
  split at h
  · assumption
  · cases h
theorem asks_no {s : ByteArray} {a b : Int} (h : ¬ asksE s a b = 0) : asksE s a b = 1 := by
  unfold asksE at h ⊢
  split at h
  · exact absurd rfl h
  · rename_i h2; exact if_neg h2
end Go.Proofs.YtcglbbabfkbcbadGreat
/- ViewTells: what a round has made: the reach, the samples lent. -/
namespace Go.Proofs.YtcglbbabfkbcbadGreat
open Go.RowKit Go.Deep

theorem Bx.stands {w w' : World} {B g b : Nat} {T T' TB : TypeId} {cs fs : Array Value} (h : Bx w b T cs) (hs : Stands B g T' w w') (hB : Bx w g TB fs) (h1 : T ≠ T') (h2 : T ≠ TB) : Bx w' b T cs := by
  refine ⟨(hs.block b h.lt ?_ (.inr ?_)).trans h.blk⟩
  · rintro rfl
    have := h.blk
    rw [hB.blk] at this
    injection this with this
    injection this with _ this
    exact h2 this.symm
  · intro cs' fr e
    rw [h.blk] at e
    injection e with e
    injection e with _ e
    exact h1 e
/-- The reach (at a box), and the samples lent: as a round has made them. -/
structure VtM (W : World) (C rb : Nat) (A : Option Addr) (n c : Nat) (B : Option Addr) (m d : Nat) (r : Rch) (mb mc k : Nat) (l : List Smp) : Prop where
  rbx : Bx W rb 46 #[.int .i64 r.now, .string r.nm, .slice A n c, .slice B m d]
  rts : W.ownsRow C 31 4 (.slice A n c) n (r.ts.flatMap Ti.cells)
  rfs : W.ownsRow C 3 1 (.slice B m d) m (r.fs.map (Value.int .i64))
  smp : W.ownsRow C 76 3 (.slice (some ⟨mb, 0, none⟩) (k + 1) mc) (k + 1) ((l ++ [lentSamples]).flatMap Smp.cells)
  hr : ∃ w0, RchAt w0 A n B m r
  hk : l.length = k
  hok : ∀ t ∈ l, t.Ok
section
variable {W W' : World} {C rb : Nat} {A : Option Addr} {n c : Nat} {B : Option Addr} {m d : Nat} {r : Rch} {mb mc k : Nat} {l : List Smp}
theorem VtM.below (h : VtM W C rb A n c B m d r mb mc k l) (hb : Below W.heap.size W W') : VtM W' C rb A n c B m d r mb mc k l :=
  ⟨h.rbx.below hb, bk_below h.rts hb, bk_below h.rfs hb, bk_below h.smp hb, h.hr, h.hk, h.hok⟩
theorem VtM.stood {BB bk : Nat} {fs : Array Value} (h : VtM W C rb A n c B m d r mb mc k l) (hs : Stands BB bk 49 W W') (hB : Bx W bk 44 fs) : VtM W' C rb A n c B m d r mb mc k l :=
  ⟨h.rbx.stands hs hB (by decide) (by decide), hs.own hB h.rts (by decide) (by decide), hs.own hB h.rfs (by decide) (by decide), hs.own hB h.smp (by decide) (by decide), h.hr, h.hk, h.hok⟩
theorem VtM.stoodI {BB bk : Nat} {fs : Array Value} (h : VtM W C rb A n c B m d r mb mc k l) (hs : Stands BB bk 25 W W') (hB : Bx W bk 44 fs) : VtM W' C rb A n c B m d r mb mc k l :=
  ⟨h.rbx.stands hs hB (by decide) (by decide), hs.own hB h.rts (by decide) (by decide), hs.own hB h.rfs (by decide) (by decide), hs.own hB h.smp (by decide) (by decide), h.hr, h.hk, h.hok⟩
theorem VtM.rch (h : VtM W C rb A n c B m d r mb mc k l) : RchAt W A n B m r := by
  obtain ⟨w0, h0⟩ := h.hr
  obtain ⟨A1, c1, e1, s1⟩ := bk_sl h.rts
  obtain ⟨A2, c2, e2, s2⟩ := bk_sl h.rfs
  cases e1
  cases e2
  exact ⟨⟨s1, h0.ts.len, h0.ts.n_le, h0.ts.ok⟩, ⟨s2, h0.fs.len, h0.fs.n_le, h0.fs.wf⟩, h0.now⟩
theorem VtM.smps (h : VtM W C rb A n c B m d r mb mc k l) (hk : k ≤ 100000) : Smps W (some ⟨mb, 0, none⟩) k l := lent_smps h.smp h.hk hk h.hok
end
end Go.Proofs.YtcglbbabfkbcbadGreat
