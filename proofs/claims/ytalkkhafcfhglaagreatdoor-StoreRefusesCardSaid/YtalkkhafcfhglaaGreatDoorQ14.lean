/-
  tiers: Put, of samples that are taken.
-/
import Derived.Test.YtalkkhafcfhglaaGreatDoorQ13
set_option maxRecDepth 100000
set_option maxHeartbeats 4000000
namespace Go.Proofs.YtalkkhafcfhglaaGreatDoor
open Go.RowKit
def Rch.rec_ (r : Rch) (i : Nat) (s : Smp) : Rc := ⟨s.nm, r.start (i : Int) s.tm, ofL [s.vl]⟩
noncomputable def Tv.putTo (t : Tv) (s : Smp) : Nat -> Tv
 | 0 => t
 | k + 1 => if t.r.has (k : Int) s.tm = true then (t.putTo s k).setTab k (addL (t.r.ev k) ((t.putTo s k).tab k) [t.r.rec_ k s]) else t.putTo s k
noncomputable def Tv.put1 (t : Tv) (s : Smp) : Tv := t.putTo s t.tabs.length
noncomputable def Tv.put (t : Tv) (l : List Smp) : Tv := l.foldl Tv.put1 t
theorem Tv.putTo_r (t : Tv) (s : Smp) : ∀ k, (t.putTo s k).r = t.r
 | 0 => rfl
 | k + 1 => by
   simp only [Tv.putTo];split
   · exact Tv.putTo_r t s k
   · exact Tv.putTo_r t s k
theorem Tv.putTo_len (t : Tv) (s : Smp) : ∀ k, (t.putTo s k).tabs.length = t.tabs.length
 | 0 => rfl
 | k + 1 => by
   simp only [Tv.putTo];split
   · rw [Tv.setTab_len]; exact Tv.putTo_len t s k
   · exact Tv.putTo_len t s k
theorem Tv.put_r (t : Tv) (l : List Smp) : (t.put l).r = t.r := by
 induction l generalizing t with
 | nil => rfl
 | cons a r ih => show (Tv.put (t.put1 a) r).r = t.r; rw [ih]; exact t.putTo_r a _
theorem Tv.put_len (t : Tv) (l : List Smp) : (t.put l).tabs.length = t.tabs.length := by
 induction l generalizing t with
 | nil => rfl
 | cons a r ih => show (Tv.put (t.put1 a) r).tabs.length = _; rw [ih]; exact t.putTo_len a _
theorem Tv.putTo_few {t : Tv} {s : Smp} {N : Nat} (h : ∀ i, i < t.tabs.length -> (t.tab i).length <= N) : ∀ k, ∀ i, i < t.tabs.length -> ((t.putTo s k).tab i).length <= N + 1 /\ (k <= i -> ((t.putTo s k).tab i).length <= N)
 | 0, i, hi => ⟨by have := h i hi; show (t.tab i).length <= _; omega, fun _ => h i hi⟩
 | k + 1, i, hi => by
   have ih := Tv.putTo_few (s := s) h k i hi;simp only [Tv.putTo];split
   · by_cases e : i = k
     · subst e
       rw [Tv.setTab_same (by rw [Tv.putTo_len]; exact hi)];have := Jih (ev := t.r.ev i) (l := (t.putTo s i).tab i) (rs := [t.r.rec_ i s]);have := ih.2 (Nat.le_refl _);simp at *;omega
     · rw [Tv.setTab_other e]
       exact ⟨ih.1, fun hk => ih.2 (by omega)⟩
   · exact ⟨ih.1, fun hk => ih.2 (by omega)⟩
theorem Tv.put_few {t : Tv} {N : Nat} (h : ∀ i, i < t.tabs.length -> (t.tab i).length <= N) (l : List Smp) : ∀ i, i < t.tabs.length -> ((t.put l).tab i).length <= N + l.length := by
 induction l generalizing t N with
 | nil => exact h
 | cons a r ih =>
   intro i hi
   have := ih (t := t.put1 a) (N := N + 1) (fun j hj => by
    have hj' : j < t.tabs.length := by rw [<- t.putTo_len a t.tabs.length]; exact hj
    exact (Tv.putTo_few h _ j hj').1) i (by show i < (t.putTo a _).tabs.length; rw [Tv.putTo_len]; exact hi)
   show ((Tv.put (t.put1 a) r).tab i).length <= _;rw [List.length_cons];omega
theorem J0d (r : Rch) (i : Nat) {tm : Int} (h0 : 0 <= tm) (h1 : tm <= 9223372036854775807) : (Lit.int .i64 (r.start (i : Int) tm)).wf = true := by
 refine Jbz ?_;unfold Rch.start;split
 · unfold flrE
   split
   · omega
   · next hh => have := Jro h0 (show 1 <= ((r.ts[(i : Int).toNat]?).map Ti.ev |>.getD 0) by omega); omega
 · omega
theorem J0e {w : World} {g : Nat} {v : Int} (h : w.cell? ⟨g, 0, none⟩ = some (.int .i64 v)) (hlt : g < w.heap.size) (hv : -9223372036854775808 <= v /\ v <= 9223372036854775807) : Ints w .i64 (some ⟨g, 0, none⟩) 1 [v] :=
 ⟨⟨fun _ => ⟨g, 0, rfl, hlt, fun j u hu => by
  have hj : j = 0 := by have := (List.getElem?_eq_some_iff.1 hu).1; simp at this; omega
  subst hj
  simpa [h] using hu⟩⟩, rfl, by decide, fun z hz => by rw [List.mem_singleton.1 hz]; exact Jbz hv⟩
theorem J40 {v : Int} (h : -9223372036854775808 <= v /\ v <= 9223372036854775807) : (ofL [v]).Ok := (Ag.Fit.of (fun z hz => by rw [List.mem_singleton.1 hz]; exact Jbz h)).ok
structure TPu (wq w : World) (F : Nat -> Prop) (g wb : Nat) (x : Smp) (t : Tv) (vL : Value) : Prop where
 at_ : Jal wq F g t
 chg : Chg F w wq
 box : Bx wq wb 58 #[.string x.nm, .int .i64 x.tm, .int .i64 x.vl]
 row : wq.cell? ⟨g, 4, none⟩ = some vL
theorem TPu.below {wq w w' : World} {F : Nat -> Prop} {g wb : Nat} {x : Smp} {t : Tv} {vL : Value} (h : TPu wq w F g wb x t vL) (hb : Below wq.heap.size wq w') : TPu w' w F g wb x t vL :=
 ⟨h.at_.below hb, h.chg.then_below hb, h.box.below hb, (hb.cell (p := ⟨g, 4, none⟩) (h.at_.ins _ h.at_.g)).trans h.row⟩
theorem TPu.add {wq w w1 w' : World} {F : Nat -> Prop} {g wb gm : Nat} {x : Smp} {t t' : Tv} {vL : Value} (h : TPu wq w F g wb x t vL) (hb : Below wq.heap.size wq w1) (hg : w1.grownBy w' (some gm)) (hne : wb ≠ gm)
  (hw : Jal w' F g t' /\ Chg F wq w' /\ w'.heap[g]? = wq.heap[g]?) : TPu w' w F g wb x t' vL :=
 ⟨hw.1, h.chg.trans hw.2.1 (fun _ hb => .inl hb), (h.box.below hb).grown hg (by simpa using hne), (World.cell?_of_block (w := wq) (a := ⟨g, 4, none⟩) hw.2.2).trans h.row⟩
theorem J24 {w : World} {b : Nat} {T : TypeId} {r : Rc} (h : Bx w b T r.cells.toArray) (hnm : r.nm.size <= maxLen) (hst : (Lit.int .i64 r.st).wf = true) (hok : r.ag.Ok) : Rcs w (some ⟨b, 0, none⟩) 1 [r] := by
 refine ⟨⟨fun _ => ⟨b, 0, rfl, h.lt, fun j u hu => ?_⟩⟩, rfl, by decide, fun z hz => ?_, fun z hz => ?_, fun z hz => ?_⟩
 · refine h.at_ (0 + j) ?_
   rw [Nat.zero_add]
   simpa using hu
 all_goals rw [List.mem_singleton.1 hz]; assumption
structure PuS (wr w' : World) (x : Smp) : Prop where
 box : Bx w' wr.heap.size 58 #[.string x.nm, .int .i64 x.tm, .int .i64 x.vl]
 bel : Below wr.heap.size wr w'
theorem PuS.next {wr w1 w' : World} {x : Smp} (h : PuS wr w1 x) (hb : Below w1.heap.size w1 w') : PuS wr w' x := ⟨h.box.below hb, h.bel.trans (hb.mono h.bel.size)⟩
theorem J25 {F : Nat -> Prop} {g : Nat} {t : Tv} {A : Option Addr} {n c : Nat} {l : List Smp} (w : World) (h : Jal w F g t) (h1 : 1 <= t.tabs.length) (hl : Smps w A n l) (hA : AIn (fun b => ¬ F b) A) (hn : 1 <= n /\ n <= 8) (hfew : ∀ i, i < t.tabs.length -> (t.tab i).length <= 900000)
  (hg : ∀ s ∈ l, t.r.Gets s) (hev : ∀ i, i < t.tabs.length -> -9223372036854775808 <= t.r.ev i /\ t.r.ev i <= 9223372036854775807) :
  Calls Tryz.prog 46 #[.pointer (some ⟨g, 0, none⟩), .slice A n c] w fun e w' => e = .returned (.int .i64 0) /\ Jal w' F g (t.put l) /\ Chg F w w' := by
 have HNO := zI (Jmh w h h1);have HT := zI h;have HL := zI hl;have HLN := zI hl.len;have HA := zI hA;have HG := zI hg;have HEV := zI hev;have HFW := zI hfew;have h3 := h.few;have hn1 := hn.1;have hn8 := hn.2;have d1 : ((n : Int) == 0) = false := by rw [beq_eq_false_iff_ne]; omega
 have d2 : decide ((8 : Int) < (n : Int)) = false := decide_eq_false (by omega);have HTK := zI (show ∀ W (x : Smp), x ∈ l -> ∀ A2 c2 B2 m2 d2, Jef W A2 t.tabs.length B2 m2 t.r -> Calls Tryz.prog 92 #[rchV t.r.now t.r.nm A2 t.tabs.length c2 B2 m2 d2, .agg #[.string x.nm, .int .i64 x.tm, .int .i64 x.vl]] W fun e w' => e = .returned (.int .i64 0) /\ Below W.heap.size W w' from fun W x hx A2 c2 B2 m2 d2 hR => J0c A2 _ c2 B2 m2 d2 t.r x W hR (by omega) h1 (hg x hx));clear h hl hA hg hev hn hfew;go_enter Tryz.func46, Tryz.ntmps46;go_wp2_with fail
 refine HNO.out.mono ?_;rintro e w1 ⟨rfl, hw⟩;subst hw;go_wp2_with fail
 go_loopw [28] (fun j wr => ∃ k : Nat, k <= n /\ j = .int .i64 (k : Int) /\ Below w.heap.size w wr) (fun j _ => n - (intOf j).toNat)
 case atStart => exact ⟨0, Nat.zero_le _, rfl, Below.refl _ _⟩
 case round =>
  obtain ⟨k, hk, rfl, hb⟩ := hrel;by_cases hlt : k < n
  · have K : k < l.length := by rw [HLN.out]; exact hlt
    obtain ⟨b, off, rfl, hbl, R⟩ := (HL.out.below hb).get K;obtain ⟨A2, c2, B2, m2, d2, L2, cl2, ga2, gm2, hX, hRr, _⟩ := (HT.out.below hb).tabs;obtain ⟨x, hx⟩ : ∃ x, x = l[k] := ⟨_, rfl⟩;have HTX := zI (fun W (hW : Below wr.heap.size wr W) => HTK.out W x (by rw [hx]; exact List.getElem_mem K) A2 c2 B2 m2 d2 (hRr.below hW));rw [<- hx] at R;have hba := (Below.refl wr.heap.size wr).alloc (Nat.le_refl _) (.cells #[.string x.nm, .int .i64 x.tm, .int .i64 x.vl] 58);obtain ⟨w1, hw1⟩ : ∃ w1, w1 = wr.alloc (.cells #[.string x.nm, .int .i64 x.tm, .int .i64 x.vl] 58) := ⟨_, rfl⟩;have hbx := Bx.new wr 58 #[.string x.nm, .int .i64 x.tm, .int .i64 x.vl];rw [<- hw1] at hba hbx;have HP1 := zI (show PuS wr w1 x from ⟨hbx, hba⟩);have HPD := zI (HP1.out.next (Below.refl _ _).drew);have HW1 := zI hw1;have HXX := zI hX;have HXD := zI (hX.below HPD.out.bel);have HB := zI hb;obtain ⟨r0, r1, r2⟩ := R;clear hx hba hbx hw1 hX hRr hb;go_upto_region 8 with fail
    rw [<- HW1.out]
    go_region_held3 (fun w' => w'.cell? ⟨g, 0, none⟩ = some (.int .i64 t.r.now) /\ w'.cell? ⟨g, 1, none⟩ = some (.string t.r.nm) /\ w'.cell? ⟨g, 2, none⟩ = some (.slice A2 t.tabs.length c2) /\ w'.cell? ⟨g, 3, none⟩ = some (.slice B2 m2 d2) /\ w'.cell? ⟨wr.heap.size, 0, none⟩ = some (.string x.nm) /\ w'.cell? ⟨wr.heap.size, 1, none⟩ = some (.int .i64 x.tm) /\ w'.cell? ⟨wr.heap.size, 2, none⟩ = some (.int .i64 x.vl) /\ PuS wr w' x)
     (first
       | exact ⟨HXD.out.at_ 0 rfl, HXD.out.at_ 1 rfl, HXD.out.at_ 2 rfl, HXD.out.at_ 3 rfl, HPD.out.box.at_ 0 rfl, HPD.out.box.at_ 1 rfl, HPD.out.box.at_ 2 rfl, HPD.out⟩
       | (go_split_ands
          have hS := PuS.next (by assumption) hb2;exact ⟨(HXX.out.below hS.bel).at_ 0 rfl, (HXX.out.below hS.bel).at_ 1 rfl, (HXX.out.below hS.bel).at_ 2 rfl, (HXX.out.below hS.bel).at_ 3 rfl, hS.box.at_ 0 rfl, hS.box.at_ 1 rfl, hS.box.at_ 2 rfl, hS⟩))
     ((go_at_call 92; go_split_ands; refine (HTX.out _ (PuS.bel (by assumption))).mono ?_; rintro e w2 ⟨rfl, hb2⟩))
    have hS : PuS wr w2 x := by go_split_ands; assumption
    have HB2 := zI (HB.out.trans (hS.bel.mono HB.out.size));clear hS r0 r1 r2;go_wp2_with fail
    go_roundw
    case rel => exact ⟨k + 1, by omega, by go_num, HB2.out⟩
    case measure => simp [intOf]; omega
  · obtain ⟨wo, hwo⟩ : ∃ wo : World, wo = wr := ⟨_, rfl⟩
    rw [<- hwo] at hb ⊢;have HTO := zI (HT.out.below hb);have HBO := zI hb;clear hwo hb;go_wp2_with fail
    go_loopw [44] (fun j wr => ∃ k : Nat, k <= n /\ j = .int .i64 (k : Int) /\ Jal wr F g (t.put (l.take k)) /\ Chg F w wr) (fun j _ => n - (intOf j).toNat)
    case atStart => exact ⟨0, Nat.zero_le _, rfl, HTO.out, Chg.of_below HBO.out⟩
    case round =>
     obtain ⟨k2, hk2, rfl, hTk, hC⟩ := hrel;by_cases hlt : k2 < n
     · have K : k2 < l.length := by rw [HLN.out]; exact hlt
       obtain ⟨b, off, rfl, hbl, R⟩ := (HL.out.chg hC HA.out).get K;obtain ⟨x, hx⟩ : ∃ x, x = l[k2] := ⟨_, rfl⟩;have HGX := zI (show t.r.Gets x from by rw [hx]; exact HG.out _ (List.getElem_mem K));have HPN := zI (show (t.put (l.take k2)).put1 x = t.put (l.take (k2 + 1)) from by rw [hx, List.take_succ_eq_append_getElem K]; unfold Tv.put; rw [List.foldl_append]; rfl)
       have HFK := zI (show ∀ i, i < t.tabs.length -> ((t.put (l.take k2)).tab i).length <= 900010 from fun i hi => by
        have := Tv.put_few (t := t) (N := 900000) (HFW.out) (l.take k2) i hi;rw [List.length_take] at this; omega)
       have HTR := zI (show (t.put (l.take k2)).r = t.r from t.put_r _);have HTL := zI (show (t.put (l.take k2)).tabs.length = t.tabs.length from t.put_len _);rw [<- hx] at R;generalize t.put (l.take k2) = tk at *;obtain ⟨N, hN⟩ : ∃ N, N = t.tabs.length := ⟨_, rfl⟩;have HN := zI hN;have hN3 : N <= 1000 := (by omega);have hN1 : 1 <= N := (by omega);have hkl : tk.tabs.length = N := (by rw [HTL.out, hN]);have hfk : ∀ i, i < N -> (tk.tab i).length <= 900010 := fun i hi => HFK.out i (by rw [<- hN]; exact hi);have HFK := zI hfk;clear hN hfk;have hba := (Below.refl wr.heap.size wr).alloc (Nat.le_refl _) (.cells #[.string x.nm, .int .i64 x.tm, .int .i64 x.vl] 58);obtain ⟨w1, hw1⟩ : ∃ w1, w1 = wr.alloc (.cells #[.string x.nm, .int .i64 x.tm, .int .i64 x.vl] 58) := ⟨_, rfl⟩;have hbx := Bx.new wr 58 #[.string x.nm, .int .i64 x.tm, .int .i64 x.vl];rw [<- hw1] at hba hbx;obtain ⟨wb, hwb⟩ : ∃ wb, wb = wr.heap.size := ⟨_, rfl⟩;have HNF := zI (show ¬ F wb from by rw [hwb]; exact fun y => Nat.lt_irrefl _ (hTk.ins _ y));have HW1 := zI hw1;have HT1 := zI (hTk.below hba);have HC1 := zI (hC.then_below hba);have HWB := zI hwb;rw [<- hwb] at hbx;have HBX := zI hbx;obtain ⟨b0, off0, cl0, _, _, c40, _⟩ := (hTk.below hba).focus 0 (by omega);rw [hkl] at c40;obtain ⟨r0, r1, r2⟩ := R;clear hx hba hbx hw1 hwb hTk hC;go_upto_region 15 with fail
       rw [<- HW1.out, <- HWB.out];have C40 := zI c40;go_wp2_with fail
       obtain ⟨wi, hwi⟩ : ∃ wi : World, wi = w1 := ⟨_, rfl⟩;rw [<- hwi] at HT1 HC1 HBX C40 ⊢;clear c40 r0 r1 r2 HW1 hwi;go_loopw [53] (fun j wq => ∃ q : Nat, q <= N /\ j = .int .i64 (q : Int) /\ TPu wq w F g wb x (tk.putTo x q) (.slice (some ⟨b0, off0, none⟩) N cl0)) (fun j _ => N - (intOf j).toNat)
       case atStart => exact ⟨0, Nat.zero_le _, rfl, HT1.out, HC1.out, HBX.out, C40.out⟩
       case round =>
        obtain ⟨q, hq, rfl, hTq, hCq, hBq, hcq⟩ := hrel;by_cases hlq : q < N
        · have hlen : (tk.putTo x q).tabs.length = N := by rw [Tv.putTo_len, hkl]
          have hrr : (tk.putTo x q).r = t.r := (by rw [Tv.putTo_r, HTR.out]);obtain ⟨b2, off2, cl2, ga, gm, c42, hb2', hptr, hTab, hFgm, wand⟩ := hTq.focus q (by omega);rw [hlen] at c42;have hce := hcq.symm.trans c42;cases hce
          obtain ⟨A2, c2, B2, m2, d2, L2, cl3, _, _, hX, hRr, _⟩ := hTq.tabs;rw [hlen, hrr] at hX hRr;rw [hrr] at hTab wand
          have HLE := zI (show ((tk.putTo x q).tab q).length + 1 < 1000000 from by
           have := (Tv.putTo_few (t := tk) (s := x) (N := 900010) (fun i hi => HFK.out i (by omega)) q q (by omega)).1;omega)
          have HST := zI (fun W (hW : Below wr.heap.size wr W) => Jvt A2 N c2 B2 m2 d2 t.r (q : Int) x.tm W (hRr.below hW) (by omega) HGX.out.ok.tm);have HSW := zI (J0d t.r q HGX.out.tm.1 HGX.out.ok.tm.2);have HOF := zI (J40 HGX.out.ok.vl);have HAG := zI (fun W (g0 : Nat) (hg : W.cell? ⟨g0, 0, none⟩ = some (.int .i64 x.vl)) (hlt : g0 < W.heap.size) => J4p (some ⟨g0, 0, none⟩) 1 1 [x.vl] W (J0e hg hlt HGX.out.ok.vl))
          have HP1 := zI (show t.r.has (q : Int) x.tm = true -> tk.putTo x (q + 1) = (tk.putTo x q).setTab q (addL (t.r.ev q) ((tk.putTo x q).tab q) [⟨x.nm, t.r.start (q : Int) x.tm, ofL [x.vl]⟩]) from fun hh => by
           simp only [Tv.putTo];rw [HTR.out, if_pos hh]; rfl)
          have HP0 := zI (show t.r.has (q : Int) x.tm = false -> tk.putTo x (q + 1) = tk.putTo x q from fun hh => by
           simp only [Tv.putTo];rw [HTR.out, if_neg (by rw [hh]; decide)])
          generalize t.r.start (q : Int) x.tm = at_ at *;generalize t.r.has (q : Int) x.tm = hs at *;generalize ofL [x.vl] = a at *;have HXX := zI hX;have HBQ := zI hBq;have HTQ := zI hTq;have HCQ := zI hCq;have HC42 := zI c42;have HPT := zI hptr;have HB2 := zI hb2';have hbD := (Below.refl wr.heap.size wr).drew;have HBD := zI hbD;have HXD := zI (hX.below hbD);have HBQD := zI (hBq.below hbD);have HTB := zI hTab;have HNG := zI (show wb ≠ gm from fun e => HNF.out (by rw [e]; exact hFgm));have HEQ := zI (HEV.out q (by rw [<- HN.out]; exact hlq));have HWA := zI wand;have HCR := zI hcq;clear hX hRr hTab hFgm hBq hTq hCq c42 hb2' hbD wand;have HSTD := zI (HST.out _ HBD.out);go_upto_region 18 with fail
          go_region_held3 (fun w' => w'.cell? ⟨g, 0, none⟩ = some (.int .i64 t.r.now) /\ w'.cell? ⟨g, 1, none⟩ = some (.string t.r.nm) /\ w'.cell? ⟨g, 2, none⟩ = some (.slice A2 N c2) /\ w'.cell? ⟨g, 3, none⟩ = some (.slice B2 m2 d2) /\ w'.cell? ⟨wb, 1, none⟩ = some (.int .i64 x.tm) /\ Below wr.heap.size wr w')
           (first
             | exact ⟨HXD.out.at_ 0 rfl, HXD.out.at_ 1 rfl, HXD.out.at_ 2 rfl, HXD.out.at_ 3 rfl, HBQD.out.at_ 1 rfl, HBD.out⟩
             | (have hS := HBD.out.trans (hb3.mono HBD.out.size)
                exact ⟨(HXX.out.below hS).at_ 0 rfl, (HXX.out.below hS).at_ 1 rfl, (HXX.out.below hS).at_ 2 rfl, (HXX.out.below hS).at_ 3 rfl, (HBQ.out.below hS).at_ 1 rfl, hS⟩))
           ((go_at_call 93; refine HSTD.out.mono ?_; rintro e w3 ⟨rfl, hb3⟩))
          have hS3 := HBD.out.trans (hb3.mono HBD.out.size);cases hs with
          | false =>
            have HPX := zI (show TPu w3 w F g wb x (tk.putTo x (q + 1)) (.slice (some ⟨b0, off0, none⟩) N cl0) from by
             rw [HP0.out rfl];exact TPu.below ⟨HTQ.out, HCQ.out, HBQ.out, hcq⟩ hS3)
            clear hcq hS3 hb3;go_wp2_with fail
            go_roundw
            case rel => exact ⟨q + 1, by omega, by go_num, HPX.out⟩
            case measure => simp [intOf]; omega
          | true =>
            have HPX := zI (HP1.out rfl);have HBX3 := zI (HBQ.out.below hS3);have hbD := (Below.refl w3.heap.size w3).drew;have HBX3D := zI (HBX3.out.below (Below.refl w3.heap.size w3).drew);have hb5 : Below w3.heap.size w3 (w3.alloc (.cells #[.int .i64 x.vl] 3)).drew := ((Below.refl w3.heap.size w3).alloc (Nat.le_refl _) _).drew;have HB5 := zI (HBX3.out.below hb5);have HS5 := zI (hS3.trans (hb5.mono hS3.size));have HAGD := zI (HAG.out _ _ ((Bx.new w3 3 #[.int .i64 x.vl]).drew.at_ 0 rfl) (Bx.new w3 3 #[.int .i64 x.vl]).drew.lt);clear hS3 hb3 hb5;go_upto_region 20 with fail
            go_region_held3 (fun w' => w'.cell? ⟨wb, 0, none⟩ = some (.string x.nm) /\ w'.cell? ⟨wb, 2, none⟩ = some (.int .i64 x.vl) /\ Bx w' wb 58 #[.string x.nm, .int .i64 x.tm, .int .i64 x.vl])
             (first
               | exact ⟨HBX3D.out.at_ 0 rfl, HBX3D.out.at_ 2 rfl, HBX3D.out⟩
               | exact ⟨HB5.out.at_ 0 rfl, HB5.out.at_ 2 rfl, HB5.out⟩
               | (have hS := HB5.out.below hb6
                  exact ⟨hS.at_ 0 rfl, hS.at_ 2 rfl, hS⟩)
               | (have hS := (HB5.out.below hb6).alloc (.cells #[.string x.nm, .int .i64 at_, .int .i64 a.c, .int .i64 a.hi, .int .u64 a.lo, .int .i64 a.mn, .int .i64 a.mx] 169)
                  exact ⟨hS.at_ 0 rfl, hS.at_ 2 rfl, hS⟩)
               | (have hS := HP8.out.box
                  exact ⟨hS.at_ 0 rfl, hS.at_ 2 rfl, hS⟩))
             (first
               | (go_at_call 95; refine HAGD.out.mono ?_; rintro e w6 ⟨rfl, hb6⟩)
               | (go_at_call 94
                  have H17 := zI ((HS5.out.trans (hb6.mono HS5.out.size)).alloc (Nat.le_trans HS5.out.size hb6.size) (.cells #[.string x.nm, .int .i64 at_, .int .i64 a.c, .int .i64 a.hi, .int .u64 a.lo, .int .i64 a.mn, .int .i64 a.mx] 169));have HRS := zI (J24 (r := ⟨x.nm, at_, a⟩) (Bx.new w6 169 #[.string x.nm, .int .i64 at_, .int .i64 a.c, .int .i64 a.hi, .int .u64 a.lo, .int .i64 a.mn, .int .i64 a.mx]) HGX.out.ok.nm HSW.out HOF.out);have HAD := zI (Jq9 (c := 1) _ (HTB.out.below H17.out) HRS.out HEQ.out HLE.out);refine HAD.out.mono ?_;rintro e w8 ⟨rfl, hT8, hg8⟩;have HP8 := zI (TPu.add ⟨HTQ.out, HCQ.out, HBQ.out, HCR.out⟩ H17.out hg8 HNG.out (HWA.out _ _ _ H17.out hg8 hT8))))
            have HP9 := zI (show TPu w8 w F g wb x (tk.putTo x (q + 1)) (.slice (some ⟨b0, off0, none⟩) N cl0) from by rw [HPX.out]; exact HP8.out);clear hT8 hg8 hb6;go_wp2_with fail
            go_roundw
            case rel => exact ⟨q + 1, by omega, by go_num, HP9.out⟩
            case measure => simp [intOf]; omega
        · have hqe : q = N := by omega
          have HE := zI (show tk.putTo x q = t.put (l.take (k2 + 1)) from by rw [<- HPN.out, hqe, <- hkl]; rfl);rw [HE.out] at hTq;have HTQ := zI hTq;have HCQ := zI hCq;clear hTq hCq hBq hcq;go_wp2_with fail
          go_roundw
          case rel => exact ⟨k2 + 1, by omega, by go_num, HTQ.out, HCQ.out⟩
          case measure => simp [intOf]; omega
     · have hke : k2 = n := by omega
       have HTK2 := zI (show l.take k2 = l from List.take_of_length_le (by rw [HLN.out]; omega));rw [HTK2.out] at hTk;have HT2 := zI hTk;have HC := zI hC;clear hTk hC;go_wp2_with fail
       go_ret;exact ⟨rfl, HT2.out, HC.out⟩
end Go.Proofs.YtalkkhafcfhglaaGreatDoor
