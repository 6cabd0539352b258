/-
  Several texts in one: Srd, Loads, Build.
-/
import Derived.Test.YtalkkhafcfhglaaGreatDoorQ41
set_option maxRecDepth 100000
set_option maxHeartbeats 4000000
namespace Go.Proofs.YtalkkhafcfhglaaGreatDoor
open Go.RowKit
structure SegR (f : Int -> Option ByteArray) (D N : Nat) (e : En) (l : List Rc) : Prop where
 on : ∀ j (hj : j < e.bl.length), some (Ja5 f e.bl[j]) = (sgL e.id e.tier e.shard l)[j]?
 len : e.bl.length = sgN l.length
 n : 1 <= l.length /\ l.length <= 10000
 fine : ∀ r ∈ l, r.Fine
 lt : l.Pairwise Rc.lt
 bl : ∀ z ∈ e.bl, (D : Int) <= z /\ z < (N : Int)
theorem SegR.strs {f : Int -> Option ByteArray} {D N : Nat} {e : En} {l : List Rc} (h : SegR f D N e l) : bksL f e.bl = (sgL e.id e.tier e.shard l).map Value.string := by
 apply List.ext_getElem?;intro j;unfold bksL;rw [List.getElem?_map, List.getElem?_map];by_cases hj : j < e.bl.length
 · rw [<- h.on j hj, List.getElem?_eq_getElem hj]; rfl
 · rw [List.getElem?_eq_none (by omega), List.getElem?_eq_none (by rw [Jep, <- h.len]; omega)]; rfl
theorem J1m {w : World} {A : Option Addr} {n : Nat} {zs : List Int} (h : Ints w .i64 A n zs) (hn : 1 <= n) : ∃ a, A = adr a := by
 obtain ⟨b, off, e, _⟩ := h.sl.at_ (by intro e; have h1 := congrArg List.length e; have := h.len; simp at h1; rw [h1] at this; simp at this; omega);exact ⟨some (b, off), e⟩
structure SrS (w1 wr : World) (P : Option Addr) (k pc : Nat) (ps : List Pm) : Prop where
 row : wr.ownsRow w1.heap.size 144 7 (.slice P k pc) k (ps.flatMap Pm.cells)
 rc : ∀ p ∈ ps, wr.ownsRow w1.heap.size 169 7 (.slice (adr p.B) p.l.length p.d) p.l.length (p.l.flatMap Rc.cells)
 bel : Below w1.heap.size w1 wr
section
variable {w1 wr w' : World} {P : Option Addr} {k pc : Nat} {ps : List Pm}
theorem SrS.below (h : SrS w1 wr P k pc ps) (hb : Below wr.heap.size wr w') : SrS w1 w' P k pc ps :=
 ⟨Jaj h.row hb, fun p hp => Jaj (h.rc p hp) hb, h.bel.trans (hb.mono h.bel.size)⟩
theorem SrS.put {P' : Option Addr} {pc' : Nat} (h : SrS w1 wr P k pc ps) (p : Pm) (hr : wr.ownsRow w1.heap.size 169 7 (.slice (adr p.B) p.l.length p.d) p.l.length (p.l.flatMap Rc.cells)) (hg : wr.grownBy w' (Value.slice P k pc).ownBlock)
  (ho : w'.ownsRow w1.heap.size 144 7 (.slice P' (k + 1) pc') (k + 1) (ps.flatMap Pm.cells ++ p.cells)) : SrS w1 w' P' (k + 1) pc' (ps ++ [p]) := by
 refine ⟨by rw [List.flatMap_append]; simpa using ho, fun q hq => ?_, Jb8 h.row hg h.bel h.bel.size⟩;rcases List.mem_append.1 hq with hq | hq
 · exact (h.rc q hq).kept hg (Jgw (h.rc q hq) h.row (by decide))
 · rw [List.mem_singleton.1 hq]; exact hr.kept hg (Jgw hr h.row (by decide))
end
theorem J1n {F G : Nat -> Prop} {g N C B D R gd gen id mp bk q : Nat} {lg : Option Addr} {bad : Int} {f : Int -> Option ByteArray} (k i : Nat) (now : Int) (nm : ByteArray) (A : Option Addr) (n c : Nat) (B' : Option Addr) (c2 : Nat) (E : Option Addr) (en ec : Nat) (ts : List Ti) (fl : List Int) (ms : List Em) (rs : List (List Rc)) (w : World)
  (hX : Bx w g 48 (Jcv N C B D R ⟨gd, 0, none⟩ gen id mp bk lg bad)) (hD : DsAt w F gd N q f) (hL : Jex N C B D R) (hC : Jf4 w G k i now nm A n c B' c2 E en ec ts fl ms)
  (hrl : rs.length = ms.length) (hs : ∀ j (h1 : j < ms.length) (h2 : j < rs.length), SegR f D N ms[j].e rs[j]) :
  Calls Tryz.prog 32 #[.pointer (some ⟨g, 0, none⟩), .agg (Jax k i now nm A n c B' c2 E en ec)] w fun e w' => ∃ P pc ps, e = .returned (.tuple #[.slice P en pc, .int .i64 0]) /\ ps.map Pm.em = ms /\ ps.map Pm.l = rs /\ SrS w w' P en pc ps := by
 have hN := hL.n;have hbd := hL.bd;have hb0 : Below w.heap.size w (w.alloc (.cells (Jax k i now nm A n c B' c2 E en ec) 88)) := (Below.refl _ w).alloc (Nat.le_refl _) _;have b0 := Bx.new w 88 (Jax k i now nm A n c B' c2 E en ec);have HX := zI hX;have HD := zI hD;have HEM := zI hC.hes;have HOK := zI hC.hok;have HI := zI hC.hi;have HL9 := zI hC.hen;have HML := zI hC.hes.len;have hen : en <= 90 := hC.hen;have HRL := zI hrl;have HSG := zI hs;have HNN := zI hN;have HBD := zI hbd;have HB0 := zI hb0;have x11 := b0.at_ 11 (v := .slice E en ec) rfl;clear hX hD hC hrl hs hL hN hbd hb0 b0;go_enter Tryz.func32, Tryz.ntmps32;go_wp2_with fail
 obtain ⟨w1, hw1⟩ : ∃ w1, w1 = w.alloc (.cells (Jax k i now nm A n c B' c2 E en ec) 88) := ⟨_, rfl⟩;rw [<- hw1] at HB0;have hW1 : w.alloc (.cells #[.int .u64 (k : Int), .int .u64 (i : Int), .int .i64 now, .string nm, .slice A n c, .slice B' n c2, .string ByteArray.empty, .slice none 0 0, .slice none 0 0, .int .i64 0, .int .i64 0, .slice E en ec] 88) = w1 := hw1.symm;rw [hW1];have HS1 := zI (show SrS w w1 none 0 0 [] from ⟨World.ownsRow_nil _ _ _ _, fun p hp => by simp at hp, HB0.out⟩);clear hW1 hw1 x11;go_loopw [6, 17] (fun o j wr => ∃ (h : Nat) (P : Option Addr) (pc : Nat) (ps : List Pm), h <= en /\ j = .int .i64 (h : Int) /\ o = .slice P h pc /\ ps.map Pm.em = ms.take h /\ ps.map Pm.l = rs.take h /\ SrS w wr P h pc ps) (fun _ j _ => en - (intOf j).toNat)
 case atStart => exact ⟨0, none, 0, [], Nat.zero_le _, rfl, rfl, by simp, by simp, HS1.out⟩
 case round =>
  obtain ⟨h, P, pc, ps, hh, rfl, rfl, hm, hl, hS⟩ := hrel;by_cases hlt : h < en
  · have K : h < ms.length := by rw [HML.out]; exact hlt
    have K2 : h < rs.length := by rw [HRL.out]; exact K
    obtain ⟨b2, o2, hA2, hb2, hcl⟩ := (HEM.out.below hS.bel).get K;have HSR := zI (HSG.out h K K2);have HRW := zI (((HEM.out.below hS.bel).row _ (List.getElem_mem K)).1);have HEO := zI (HOK.out _ (List.getElem_mem K));have HTM := zI (show ms.take (h + 1) = ms.take h ++ [ms[h]] from List.take_succ_eq_append_getElem K);have HTR := zI (show rs.take (h + 1) = rs.take h ++ [rs[h]] from List.take_succ_eq_append_getElem K2);generalize ms[h]'K = x at *;generalize rs[h]'K2 = rl at *;obtain ⟨⟨eid, et, es, bl⟩, xA, xc⟩ := x;dsimp only at HSR HRW HEO;obtain ⟨m, hmm⟩ : ∃ m, m = bl.length := ⟨_, rfl⟩;have p0 : wr.cell? ⟨b2, o2 + h * 6, none⟩ = some (.int .u64 (eid : Int)) := hcl.c0;have p1 : wr.cell? ⟨b2, o2 + h * 6 + 1, none⟩ = some (.int .i64 (et : Int)) := hcl.c1;have p2 : wr.cell? ⟨b2, o2 + h * 6 + 2, none⟩ = some (.int .i64 (es : Int)) := hcl.c2;have p3 : wr.cell? ⟨b2, o2 + h * 6 + 3, none⟩ = some (.int .i64 0) := hcl.c3;have p4 : wr.cell? ⟨b2, o2 + h * 6 + 4, none⟩ = some (.int .i64 (m : Int)) := by rw [hmm]; exact hcl.c4
    have p5 : wr.cell? ⟨b2, o2 + h * 6 + 5, none⟩ = some (.slice xA m xc) := by rw [hmm]; exact hcl.c5
    subst hA2;obtain ⟨a5, rfl⟩ := J1m HRW.out (by have := HEO.out.len; exact this.1);obtain ⟨gb, hgb⟩ : ∃ gb, gb = wr.heap.size := ⟨_, rfl⟩;obtain ⟨wb, hwb⟩ : ∃ wb, wb = wr.alloc (.cells #[.int .u64 (eid : Int), .int .i64 (et : Int), .int .i64 (es : Int), .int .i64 0, .int .i64 (m : Int), .slice (adr a5) m xc] 139) := ⟨_, rfl⟩;have hxb := Bx.new wr 139 #[.int .u64 (eid : Int), .int .i64 (et : Int), .int .i64 (es : Int), .int .i64 0, .int .i64 (m : Int), .slice (adr a5) m xc];have hbb := (Below.refl wr.heap.size wr).alloc (Nat.le_refl _) (.cells #[.int .u64 (eid : Int), .int .i64 (et : Int), .int .i64 (es : Int), .int .i64 0, .int .i64 (m : Int), .slice (adr a5) m xc] 139);rw [<- hwb, <- hgb] at hxb;rw [<- hwb] at hbb;have HXB := zI hxb;have HWB := zI hwb;have HGB := zI hgb;have HMM := zI hmm;have HSB := zI (hS.below hbb);have HIB := zI (HRW.out.below hbb);have t5 := hxb.at_ 5 (v := .slice (adr a5) m xc) rfl;have HPM := zI hm;have HPL := zI hl;have hm4 : m <= 4096 := by rw [hmm]; have := HEO.out.len; exact this.2
    clear hcl hgb hwb hxb hbb hmm hm hl hS;go_upto_region 5 with fail
    rw [<- HWB.out, <- HGB.out];clear p0 p1 p2 p3 p4 p5;go_wp2_with fail
    go_loopw [24] (fun j wq => ∃ p : Nat, p <= m /\ j = .int .i64 (p : Int) /\ wq = wb) (fun j _ => m - (intOf j).toNat)
    case atStart => exact ⟨0, Nat.zero_le _, rfl, rfl⟩
    case round =>
     obtain ⟨p, hp, rfl, hwq⟩ := hrel;rw [hwq];clear hwq;have hxw := HX.out.below HSB.out.bel;have h5 := HBD.out;by_cases hlp : p < m
     · have K3 : p < bl.length := by rw [<- HMM.out]; exact hlp
       obtain ⟨b5, o5, e5, hb5, hc5⟩ := HIB.out.get K3;have hz := HSR.out.bl _ (List.getElem_mem K3);generalize bl[p]'K3 = z at *;have x0 := hxw.at_ 0 (v := .int .i64 (N : Int)) rfl;have x5 := hxw.at_ 5 (v := .int .i64 (D : Int)) rfl;have d1 : decide (z < (D : Int)) = false := decide_eq_false (by have := hz.1; omega);have d2 : decide ((N : Int) <= z) = false := decide_eq_false (by have := hz.2; omega);rw [e5];clear hxw h5 hb5 hz;go_wp2_with fail
       go_roundw
       case rel => exact ⟨p + 1, by omega, by go_num, trivial⟩
       case measure => simp [intOf]; omega
     · have hbd := (Below.refl wb.heap.size wb).drew
       have hdz := HNN.out;have HBK := zI (((HD.out.below HSB.out.bel).below hbd).sblocks (adr a5) bl.length xc bl (HIB.out.below hbd) (fun z hz => by have := HSR.out.bl z hz; omega) (by have := HEO.out.len; dsimp only at this; omega));rw [<- HMM.out] at HBK;have x7 := hxw.at_ 7 (v := .pointer (some ⟨gd, 0, none⟩)) rfl;have x7' := (hxw.below hbd).at_ 7 (v := .pointer (some ⟨gd, 0, none⟩)) rfl;have t5' := (HXB.out.below hbd).at_ 5 (v := .slice (adr a5) m xc) rfl;clear hxw h5 hbd hdz;go_upto_region 11 with fail
       go_cut [11, 12] (fun s11 s12 wx => ∃ A6 c6, s11 = .slice A6 m c6 /\ s12 = .int .i64 0 /\ wx.ownsRow wb.heap.size 9 1 (.slice A6 m c6) m (bksL f bl) /\ Below wb.heap.size wb wx)
       case first =>
        go_region_with (first
         | (go_at_call 65
            refine HBK.out.mono ?_;rintro e w6 ⟨vv, rfl, ho6, hb6⟩;obtain ⟨A6, c6, rfl, _⟩ := Jaq ho6))
        all_goals (go_split_ands; go_wp2_with fail; go_meet; exact ⟨A6, c6, rfl, rfl, by simpa using ho6, (Below.refl wb.heap.size wb).drew.trans (by simpa using hb6)⟩)
       case rest =>
        obtain ⟨A6, c6, rfl, rfl, ho6, hb6⟩ := hcut;have hxb6 := HXB.out.below hb6;have HXB6 := zI hxb6;have HS6 := zI (HSB.out.below hb6);have HI6 := zI (HIB.out.below hb6)
        have hst : Strs wc A6 m (sgL eid et es rl) := by
         obtain ⟨_, _, e6, hs6⟩ := Jaq ho6;cases e6
         have h1 := HSR.out.strs;dsimp only at h1;rw [h1] at hs6;refine ⟨hs6, by rw [Jep, <- HSR.out.len, HMM.out], by unfold maxLen; omega, fun s hs => by rw [Jsm HSR.out.fine s hs]; unfold maxLen; omega⟩
        have hid64 := HI.out;have heo1 := HEO.out.id;have heo2 := HEO.out.tier;have heo3 := HEO.out.shard;have HGE := zI (Jxz eid et es A6 m c6 rl wc heo1.1 (by have := heo1.2; dsimp only at this; omega) (by dsimp only at heo2; omega) (by dsimp only at heo3; omega) HSR.out.fine HSR.out.lt HSR.out.n.2 (by intro e; have := HSR.out.n.1; rw [e] at this; simp at this) hst);have g0 := hxb6.at_ 0 (v := .int .u64 (eid : Int)) rfl;have g1 := hxb6.at_ 1 (v := .int .i64 (et : Int)) rfl;have g2 := hxb6.at_ 2 (v := .int .i64 (es : Int)) rfl;clear hxb6 ho6 hb6 hst hid64 heo1 heo2 heo3;go_wp2_with fail
        refine HGE.out.mono ?_;rintro e w7 ⟨v7, rfl, ho7, hb7⟩;obtain ⟨a7, c7, rfl⟩ := Jqm ho7;obtain ⟨rn, hrn⟩ : ∃ rn, rn = rl.length := ⟨_, rfl⟩;rw [<- hrn] at ho7 ⊢;have HRN := zI hrn;obtain ⟨q7, hq7⟩ : ∃ q7 : Pm, q7 = ⟨⟨eid, et, es, bl⟩, rl, a5, xc, a7, c7⟩ := ⟨_, rfl⟩;have HQ7 := zI hq7
        have hcq : q7.cells = [.int .u64 (eid : Int), .int .i64 (et : Int), .int .i64 (es : Int), .int .i64 0, .int .i64 (m : Int), .slice (adr a5) m xc, .slice (adr a7) rn c7] := by
         rw [hq7];unfold Pm.cells Pm.raw PRaw.cells;dsimp only;rw [HMM.out, hrn]
        have HCQ := zI hcq;have hb8 := (Below.refl w7.heap.size w7).alloc (Nat.le_refl _) (.cells q7.cells.toArray 144);have HS8 := zI ((HS6.out.below hb7).below hb8)
        have HR8 := zI (show (w7.alloc (.cells q7.cells.toArray 144)).ownsRow w.heap.size 169 7 (.slice (adr q7.B) q7.l.length q7.d) q7.l.length (q7.l.flatMap Rc.cells) from by
         have h1 := Jdp (Jaj ho7 hb8) (show w.heap.size <= wc.heap.size from HS6.out.bel.size);have e1 : q7.B = a7 := (by rw [hq7]);have e2 : q7.l = rl := (by rw [hq7]);have e3 : q7.d = c7 := (by rw [hq7]);rw [e1, e2, e3, <- hrn];exact h1)
        have HSL := zI (Sl.new w7 144 w7.heap.size q7.cells q7.cells.toArray rfl rfl);have HON := zI (show ∀ u ∈ q7.cells, u.oneCell' = true from by have := Jw4 [q7]; simpa using this);have HKK := zI (show h + 1 <= 1000000 from by omega);have HBS := zI (show w.heap.size <= (w7.alloc (.cells q7.cells.toArray 144)).heap.size from HS8.out.bel.size);have HL1 := zI (show q7.cells.length = 1 * 7 from rfl);have hx7 := HXB6.out.below hb7;have y0 := hx7.at_ 0 (v := .int .u64 (eid : Int)) rfl;have y1 := hx7.at_ 1 (v := .int .i64 (et : Int)) rfl;have y2 := hx7.at_ 2 (v := .int .i64 (es : Int)) rfl;have y3 := hx7.at_ 3 (v := .int .i64 0) rfl;have y4 := hx7.at_ 4 (v := .int .i64 (m : Int)) rfl;have y5 := hx7.at_ 5 (v := .slice (adr a5) m xc) rfl;rw [hcq] at HS8 HSL HON HBS HL1 HR8;clear g0 g1 g2 hrn hq7 hcq hb8 hx7 ho7 hb7;go_wp2_with (at_builtin; refine Jpm rfl _ _ rfl HS8.out.row rfl (some ⟨w7.heap.size, 0, none⟩) 1 1 _ rfl HL1.out HSL.out HON.out HKK.out HBS.out ?_; intro E' ec' w9 ho9 hg9 hb9)
        have HS9 := zI (HS8.out.put q7 HR8.out hg9 (by rw [HCQ.out]; exact ho9));have HM9 := zI (show (ps ++ [q7]).map Pm.em = ms.take (h + 1) from by rw [List.map_append, HPM.out, HTM.out, HQ7.out]; rfl);have HL9' := zI (show (ps ++ [q7]).map Pm.l = rs.take (h + 1) from by rw [List.map_append, HPL.out, HTR.out, HQ7.out]; rfl);clear ho9 hg9 hb9 y0 y1 y2 y3 y4 y5;go_wp2_with fail
        go_roundw
        case rel => exact ⟨h + 1, E', ec', ps ++ [q7], by omega, by go_num, rfl, HM9.out, HL9'.out, HS9.out⟩
        case measure => simp [intOf]; omega
  · have hhe : h = en := by omega
    subst hhe;have HTM := zI (show ms.take h = ms from List.take_of_length_le (by rw [HML.out]; exact Nat.le_refl _));have HTR := zI (show rs.take h = rs from List.take_of_length_le (by rw [HRL.out, HML.out]; exact Nat.le_refl _));rw [HTM.out] at hm;rw [HTR.out] at hl;have HM := zI hm;have HL := zI hl;have HS := zI hS;clear hm hl hS;go_wp2_with fail
    go_ret2;exact ⟨P, pc, ps, rfl, HM.out, HL.out, HS.out⟩
structure LdS (w wr : World) (g4 g6 : Nat) (cs : Array Value) (nm : ByteArray) (A : Option Addr) (n c : Nat) : Prop where
 part : Bx wr g4 144 cs
 pol : Bx wr g6 63 #[.string nm, .slice A n c]
 bel : Below w.heap.size w wr
section
variable {w wr w' : World} {g4 g6 : Nat} {cs : Array Value} {nm : ByteArray} {A : Option Addr} {n c : Nat}
theorem LdS.below (h : LdS w wr g4 g6 cs nm A n c) (hb : Below wr.heap.size wr w') : LdS w w' g4 g6 cs nm A n c := ⟨h.part.below hb, h.pol.below hb, h.bel.trans (hb.mono h.bel.size)⟩
end
theorem J1o {F : Nat -> Prop} {gt : Nat} {t : Tv} (eid et es m : Nat) (xA : Option Addr) (xc : Nat) (B : Option Addr) (rn d : Nat) (l : List Rc) (nm : ByteArray) (A : Option Addr) (n c : Nat) (ts : List Ti) (w : World)
  (h : Jal w F gt t) (hT : Tis w A n ts) (he : et < t.tabs.length) (hn : n = t.tabs.length) (sh : Nat) (hsh : ∀ (K : et < ts.length), (ts[et]).sh = (sh : Int)) (hsh1 : 1 <= sh /\ sh <= 8) (hes : es < sh)
  (hR : Rcs w B rn l) (hB : AIn (fun b => ¬ F b) B) (hln : rn <= 10000) (hall : ∀ r ∈ l, shO sh r = es) (hld : ∀ r ∈ l, t.r.from_ et <= r.st /\ Jas (t.r.ev et) r = true) (hev : -9223372036854775808 <= t.r.ev et /\ t.r.ev et <= 9223372036854775807) (hfew : (t.tab et).length + rn < 1000000) (hn5 : n <= 5) :
  Calls Tryz.prog 70 #[.agg #[.int .u64 (eid : Int), .int .i64 (et : Int), .int .i64 (es : Int), .int .i64 0, .int .i64 (m : Int), .slice xA m xc, .slice B rn d], .int .i64 0, polV nm A n c, .func (Fn.func 71) #[.pointer (some ⟨gt, 0, none⟩)] #[]] w fun e w' => e = .returned (.bool true) /\ Jal w' F gt (t.setTab et (addL (t.r.ev et) (t.tab et) l)) /\ Chg F w w' := by
 obtain ⟨g4, hg4⟩ : ∃ g4, g4 = w.heap.size := ⟨_, rfl⟩;obtain ⟨g6, hg6⟩ : ∃ g6, g6 = w.heap.size + 1 := ⟨_, rfl⟩;obtain ⟨w1, hw1⟩ : ∃ w1, w1 = (w.alloc (.cells #[.int .u64 (eid : Int), .int .i64 (et : Int), .int .i64 (es : Int), .int .i64 0, .int .i64 (m : Int), .slice xA m xc, .slice B rn d] 144)).alloc (.cells #[.string nm, .slice A n c] 63) := ⟨_, rfl⟩;have hz1 : (w.alloc (.cells #[.int .u64 (eid : Int), .int .i64 (et : Int), .int .i64 (es : Int), .int .i64 0, .int .i64 (m : Int), .slice xA m xc, .slice B rn d] 144)).heap.size = w.heap.size + 1 := by simp
 have hp1 : Bx w1 g6 63 #[.string nm, .slice A n c] := by
  have := Bx.new (w.alloc (.cells #[.int .u64 (eid : Int), .int .i64 (et : Int), .int .i64 (es : Int), .int .i64 0, .int .i64 (m : Int), .slice xA m xc, .slice B rn d] 144)) 63 #[.string nm, .slice A n c];rw [hz1, <- hg6] at this;rw [hw1]; exact this
 have HL1 := zI (show LdS w w1 g4 g6 #[.int .u64 (eid : Int), .int .i64 (et : Int), .int .i64 (es : Int), .int .i64 0, .int .i64 (m : Int), .slice xA m xc, .slice B rn d] nm A n c from
  ⟨by rw [hw1, hg4]; exact (Bx.new w _ _).alloc _, hp1, by rw [hw1]; exact ((Below.refl _ w).alloc (Nat.le_refl _) _).alloc (by simp) _⟩)
 have HW1 := zI hw1;have HG4 := zI hg4;have HG6 := zI hg6;have HT := zI h;have HTI := zI hT;have HRC := zI hR;have HB := zI hB;have HAL := zI hall;have HLD := zI hld;have HEV := zI hev;have HFW := zI hfew;have hetn : et < n := by omega
 have HEL := zI he;have K : et < ts.length := by rw [hT.len]; omega
 obtain ⟨b2, o2, hA2, hb2, hcl⟩ := hT.get K
 have hq : ∀ W, Below w.heap.size w W -> W.cell? ⟨b2, o2 + et * 4 + 3, none⟩ = some (.int .i64 (sh : Int)) := fun W hW => by
  rw [<- hsh K];have := (hT.below hW).get K;obtain ⟨b3, o3, hA3, hb3, hcl3⟩ := this;rw [hA2] at hA3;cases hA3
  exact hcl3.c3
 subst hA2;have HQ := zI hq;have d1 : decide ((et : Int) < 0) = false := decide_eq_false (by omega);have d2 : decide ((n : Int) <= (et : Int)) = false := decide_eq_false (by omega);have d3 : decide ((sh : Int) <= (es : Int)) = false := decide_eq_false (by omega);have hbd := (Below.refl w1.heap.size w1).drew;have HLD1 := zI (HL1.out.below hbd);have t1 := HL1.out.part.at_ 1 (v := .int .i64 (et : Int)) rfl;have t2 := HL1.out.part.at_ 2 (v := .int .i64 (es : Int)) rfl;have t1' := HLD1.out.part.at_ 1 (v := .int .i64 (et : Int)) rfl;have t2' := HLD1.out.part.at_ 2 (v := .int .i64 (es : Int)) rfl;have q1 := HL1.out.pol.at_ 1 (v := .slice (some ⟨b2, o2, none⟩) n c) rfl;have q1' := HLD1.out.pol.at_ 1 (v := .slice (some ⟨b2, o2, none⟩) n c) rfl;have c3 := HQ.out w1 HL1.out.bel;have c3' := HQ.out w1.drew HLD1.out.bel;clear hw1 hg4 hg6 hz1 hp1 h hT hR hB hall hld hev hfew hsh K hcl hq hbd he hn hb2;go_enter Tryz.func70, Tryz.ntmps70;go_upto_region 1 with fail
 rw [<- HW1.out, <- HG6.out, <- HG4.out];go_upto_region 2 with fail
 go_quiet (fail)
 have hbn : Below w1.heap.size w1 (w1.drewN nq) := below_drewN (Below.refl _ _) nq;obtain ⟨w2, hw2⟩ : ∃ w2, w2 = w1.drewN nq := ⟨_, rfl⟩;rw [<- hw2] at hbn ⊢;have HL2 := zI (HL1.out.below hbn);have e2 : decide (n <= et) = false := decide_eq_false (by omega);have e3 : decide (sh <= es) = false := decide_eq_false (by omega);have t6 := HL2.out.part.at_ 6 (v := .slice B rn d) rfl;clear d1 d2 d3 t1 t2 t1' t2' q1 q1' c3 c3' hbn hw2;simp only [e2, e3, Bool.or_self];go_wp2_with fail
 clear e2 e3 t6;go_loopw [43] (fun j wr => ∃ k : Nat, k <= rn /\ j = .int .i64 (k : Int) /\ LdS w wr g4 g6 #[.int .u64 (eid : Int), .int .i64 (et : Int), .int .i64 (es : Int), .int .i64 0, .int .i64 (m : Int), .slice xA m xc, .slice B rn d] nm (some ⟨b2, o2, none⟩) n c) (fun j _ => rn - (intOf j).toNat)
 case atStart => exact ⟨0, Nat.zero_le _, rfl, HL2.out⟩
 case round =>
  obtain ⟨k, hk, rfl, hS⟩ := hrel;have HLN := zI HRC.out.len;by_cases hlt : k < rn
  · have K : k < l.length := by rw [HLN.out]; exact hlt
    obtain ⟨b, off, e5, hbl, r0, r1, r2, r3, r4, r5, r6⟩ := (HRC.out.below hS.bel).get K;have HSZ := zI (HRC.out.nm _ (List.getElem_mem K));have HAX := zI (HAL.out _ (List.getElem_mem K));generalize l[k]'K = x at *;have hbx := (Below.refl wr.heap.size wr).alloc (Nat.le_refl _) (.cells #[.string x.nm, .int .i64 x.st, .int .i64 x.ag.c, .int .i64 x.ag.hi, .int .u64 x.ag.lo, .int .i64 x.ag.mn, .int .i64 x.ag.mx] 169);have hxx := Bx.new wr 169 #[.string x.nm, .int .i64 x.st, .int .i64 x.ag.c, .int .i64 x.ag.hi, .int .u64 x.ag.lo, .int .i64 x.ag.mn, .int .i64 x.ag.mx];obtain ⟨gb, hgb⟩ : ∃ gb, gb = wr.heap.size := ⟨_, rfl⟩;obtain ⟨w5, hw5⟩ : ∃ w5, w5 = wr.alloc (.cells #[.string x.nm, .int .i64 x.st, .int .i64 x.ag.c, .int .i64 x.ag.hi, .int .u64 x.ag.lo, .int .i64 x.ag.mn, .int .i64 x.ag.mx] 169) := ⟨_, rfl⟩;rw [<- hw5] at hbx hxx;rw [<- hgb] at hxx;have HSD := zI (fun W => Jpa x sh W hsh1.1 HSZ.out);rw [HAX.out] at HSD;have HS5 := zI (hS.below hbx);have HX5 := zI hxx;have HGB := zI hgb;have HW5 := zI hw5
    have HKS := zI (fun W (hW : Below w5.heap.size w5 W) => (show (W.cell? ⟨g4, 2, none⟩ = some (.int .i64 (es : Int)) /\ W.cell? ⟨g6, 1, none⟩ = some (.slice (some ⟨b2, o2, none⟩) n c) /\ W.cell? ⟨b2, o2 + et * 4 + 3, none⟩ = some (.int .i64 (sh : Int)) /\ W.cell? ⟨gb, 0, none⟩ = some (.string x.nm) /\ W.cell? ⟨gb, 1, none⟩ = some (.int .i64 x.st) /\ W.cell? ⟨gb, 2, none⟩ = some (.int .i64 x.ag.c) /\ W.cell? ⟨gb, 3, none⟩ = some (.int .i64 x.ag.hi) /\ W.cell? ⟨gb, 4, none⟩ = some (.int .u64 x.ag.lo) /\ W.cell? ⟨gb, 5, none⟩ = some (.int .i64 x.ag.mn) /\ W.cell? ⟨gb, 6, none⟩ = some (.int .i64 x.ag.mx)) /\ Below w5.heap.size w5 W from by
     have h1 := HS5.out.below hW;have h2 := HX5.out.below hW;exact ⟨⟨h1.part.at_ 2 rfl, h1.pol.at_ 1 rfl, HQ.out W h1.bel, h2.at_ 0 rfl, h2.at_ 1 rfl, h2.at_ 2 rfl, h2.at_ 3 rfl, h2.at_ 4 rfl, h2.at_ 5 rfl, h2.at_ 6 rfl⟩, hW⟩))
    have K0 := zI (HKS.out _ (Below.refl w5.heap.size w5).drew);subst e5;clear hS hbx hxx hgb hw5;go_upto_region 7 with fail
    rw [<- HW5.out, <- HGB.out];clear r0 r1 r2 r3 r4 r5 r6
    go_region_held3 (fun W => (W.cell? ⟨g4, 2, none⟩ = some (.int .i64 (es : Int)) /\ W.cell? ⟨g6, 1, none⟩ = some (.slice (some ⟨b2, o2, none⟩) n c) /\ W.cell? ⟨b2, o2 + et * 4 + 3, none⟩ = some (.int .i64 (sh : Int)) /\ W.cell? ⟨gb, 0, none⟩ = some (.string x.nm) /\ W.cell? ⟨gb, 1, none⟩ = some (.int .i64 x.st) /\ W.cell? ⟨gb, 2, none⟩ = some (.int .i64 x.ag.c) /\ W.cell? ⟨gb, 3, none⟩ = some (.int .i64 x.ag.hi) /\ W.cell? ⟨gb, 4, none⟩ = some (.int .u64 x.ag.lo) /\ W.cell? ⟨gb, 5, none⟩ = some (.int .i64 x.ag.mn) /\ W.cell? ⟨gb, 6, none⟩ = some (.int .i64 x.ag.mx)) /\ Below w5.heap.size w5 W)
     (first
       | with_reducible exact K0.out
       | with_reducible exact K6.out)
     (first
       | (go_at_call 138
          refine (HSD.out _).mono ?_;rintro e w6 ⟨rfl, hb6⟩;have K6 := zI (HKS.out _ ((Below.refl w5.heap.size w5).drew.trans hb6))))
    have HS6 := zI (HS5.out.below K6.out.2);go_split_ands;clear hb6;go_wp2_with fail
    go_roundw
    case rel => exact ⟨k + 1, by omega, by go_num, HS6.out⟩
    case measure => simp [intOf]; omega
  · have hke : k = rn := by omega
    subst hke;have hdr := (Below.refl wr.heap.size wr).drew;have hbw := hS.bel.trans (hdr.mono hS.bel.size);have HTL := zI (J0a (c := d) wr.drew (HT.out.below hbw) et HEL.out (HRC.out.below hbw) HB.out HFW.out HLD.out HEV.out);have hng : ¬ F g4 := fun hh => by have h1 := HT.out.ins g4 hh; have h2 := HG4.out; omega
    have t6 := hS.part.at_ 6 (v := .slice B k d) rfl;have HPD := zI (hS.part.below hdr);have t6' := HPD.out.at_ 6 (v := .slice B k d) rfl;have HCW := zI (show Chg F w wr.drew from Chg.of_below hbw);clear hdr hbw hS;go_upto_region 10 with fail
    go_region_with (first
     | (go_at_call 71
        refine HTL.out.mono ?_;rintro e w7 ⟨rfl, hT7, hc7⟩;have z6 := (HPD.out.chg hc7 hng).at_ 6 (v := .slice B k d) rfl))
    all_goals
     have HT7 := zI hT7;have HC7 := zI (HCW.out.trans hc7 (fun _ h => .inl h));clear hT7 hc7;go_wp2_with fail
     go_ret;exact ⟨rfl, HT7.out, HC7.out⟩
noncomputable def ldT (t : Tv) (p : Pm) : Tv := t.setTab p.e.tier (addL (t.r.ev p.e.tier) (t.tab p.e.tier) p.l)
noncomputable def Jf5 (t : Tv) (ps : List Pm) : Tv := ps.foldl ldT t
theorem Jul (t : Tv) (ps : List Pm) (p : Pm) : Jf5 t (ps ++ [p]) = ldT (Jf5 t ps) p := by unfold Jf5; rw [List.foldl_append]; rfl
theorem J4l (ps : List Pm) : ∀ t : Tv, (Jf5 t ps).r = t.r := by
 induction ps with
 | nil => intro t; rfl
 | cons p r ih => intro t; exact ih (ldT t p)
theorem Jpn (ps : List Pm) : ∀ t : Tv, (Jf5 t ps).tabs.length = t.tabs.length := by
 induction ps with
 | nil => intro t; rfl
 | cons p r ih => intro t; exact (ih (ldT t p)).trans (Tv.setTab_len _ _ _)
structure LdOk (t : Tv) (ts : List Ti) (p : Pm) : Prop where
 tier : p.e.tier < ts.length
 sh : ∃ sh : Nat, (∀ K : p.e.tier < ts.length, (ts[p.e.tier]).sh = (sh : Int)) /\ 1 <= sh /\ sh <= 8 /\ p.e.shard < sh /\ ∀ r ∈ p.l, shO sh r = p.e.shard
 n : p.l.length <= 10000
 fit : ∀ r ∈ p.l, t.r.from_ p.e.tier <= r.st /\ Jas (t.r.ev p.e.tier) r = true
 ev : -9223372036854775808 <= t.r.ev p.e.tier /\ t.r.ev p.e.tier <= 9223372036854775807
 few : (t.tab p.e.tier).length + p.l.length < 1000000
theorem Jyn {G G' : Nat -> Prop} {g N C B D R gd gen id mp bk : Nat} {lg : Option Addr} {bad : Int} (k i : Nat) (now : Int) (nm : ByteArray) (A : Option Addr) (n c : Nat) (B' : Option Addr) (c2 : Nat) (E : Option Addr) (en ec : Nat) (ts : List Ti) (fl : List Int) (ms : List Em) (P : Option Addr) (np pc : Nat) (ps : List Pm) (t : Tv) (w : World)
  (hX : Bx w g 48 (Jcv N C B D R ⟨gd, 0, none⟩ gen id mp bk lg bad)) (hL : Jex N C B D R) (hC : Jf4 w G' k i now nm A n c B' c2 E en ec ts fl ms) (hP : Jf3 w G P np ps) (hG : Ins G w)
  (hf : Jmg ts fl) (hnp : np <= 100) (hld : ∀ j (hj : j < ps.length), LdOk (Jf5 ⟨⟨now, nm, ts, fl⟩, List.replicate n []⟩ (ps.take j)) ts ps[j])
  (ht : t = Jf5 ⟨⟨now, nm, ts, fl⟩, List.replicate n []⟩ ps) (hfew : t.Few) (hneed : t.need <= (R : Int)) (hAG : AIn G A) :
  Calls Tryz.prog 33 #[.pointer (some ⟨g, 0, none⟩), .agg (Jax k i now nm A n c B' c2 E en ec), .slice P np pc] w fun e w' => ∃ g', e = .returned (.tuple #[.pointer (some ⟨g', 0, none⟩), .bool true]) /\ StAt w' (made w w') g' R t /\ Below w.heap.size w w' := by
 obtain ⟨hv, h1, h5, hfi, _⟩ := Py.check_fine hC.hck;obtain ⟨w1, hw1⟩ : ∃ w1, w1 = w.alloc (.cells (Jax k i now nm A n c B' c2 E en ec) 88) := ⟨_, rfl⟩;obtain ⟨gc, hgc⟩ : ∃ gc, gc = w.heap.size := ⟨_, rfl⟩;have hb1 : Below w.heap.size w w1 := by rw [hw1]; exact (Below.refl _ w).alloc (Nat.le_refl _) _
 have hx1 : Bx w1 gc 88 (Jax k i now nm A n c B' c2 E en ec) := by rw [hw1, hgc]; exact Bx.new w _ _
 have hlt := hC.hts.len
 have HTN := zI (Jv1 nm A n c ts now B' n c2 fl w1 (fun W hW => by
  have h := Py.check_any nm A n c ts W hC.hnm hW hC.hc;rw [hC.hck] at h;exact h) (hC.hts.below hb1) hC.hc (hC.hfl.below hb1) hC.hnow hf (fun t ht => (hfi t ht).ev.1) (by omega) hC.hnm)
 have HLT := zI hlt;have HCT := zI (hC.hts.below hb1);have hn5 : 1 <= n /\ n <= 5 := by rw [<- hlt]; exact ⟨h1, h5⟩
 have HX := zI hX;have HLY := zI hL;have HPS := zI (hP.below hb1);have HGI := zI hG;have HLD := zI hld;have HT := zI ht;have HFW := zI hfew;have HND := zI hneed;have HB1 := zI hb1;have HX1 := zI hx1;have HGC := zI hgc;have HW1 := zI hw1;have HAG := zI hAG;have HPL := zI hP.len;have HSM := zI (fun W => J31 W);obtain ⟨x0, x1, x2, x3, x4, x5, x6, x7, x8, x9, x10, x11⟩ := Jbd hx1;clear hX hL hC hP hG hld ht hfew hneed hAG hb1 hx1 hgc hw1 hv h1 h5 hfi hlt hf;go_enter Tryz.func33, Tryz.ntmps33;go_upto_region 1 with fail
 have hW1 : w.alloc (.cells #[.int .u64 (k : Int), .int .u64 (i : Int), .int .i64 now, .string nm, .slice A n c, .slice B' n c2, .string ByteArray.empty, .slice none 0 0, .slice none 0 0, .int .i64 0, .int .i64 0, .slice E en ec] 88) = w1 := HW1.out.symm;rw [hW1, <- HGC.out];clear hW1;go_wp2_with fail
 refine HTN.out.mono ?_;rintro e w2 ⟨gt, rfl, hT2, hb2⟩;have HT2 := zI hT2;have HB2 := zI hb2;have HX2 := zI (HX1.out.below hb2);clear x0 x1 x2 x3 x4 x5 x6 x7 x8 x9 x10 x11 hT2 hb2;obtain ⟨x0, x1, x2, x3, x4, x5, x6, x7, x8, x9, x10, x11⟩ := Jbd HX2.out;go_wp2_with fail
 refine (HSM.out w2).mono ?_;rintro e w3 ⟨rfl, hb3⟩;have hb3' := hb3;have HB3 := zI (HB2.out.trans (hb3.mono HB2.out.size));obtain ⟨F, hF⟩ : ∃ F : Nat -> Prop, F = made w1 w2 := ⟨_, rfl⟩;rw [<- hF] at HT2;have HT3 := zI (HT2.out.below hb3);have HF := zI (show ∀ x, F x -> w1.heap.size <= x /\ x < w2.heap.size from fun x hx => by rw [hF] at hx; exact hx);have HZ3 := zI hb3.size;clear x0 x1 x2 x3 x4 x5 x6 x7 x8 x9 x10 x11 hb3 hb3' hF;go_wp2_with fail
 go_loopw [47] (fun j wr => ∃ h : Nat, h <= np /\ j = .int .i64 (h : Int) /\ Jal wr F gt (Jf5 ⟨⟨now, nm, ts, fl⟩, List.replicate n []⟩ (ps.take h)) /\ Chg F w3 wr) (fun j _ => np - (intOf j).toNat)
 case atStart => exact ⟨0, Nat.zero_le _, rfl, by simpa [Jf5] using HT3.out, Chg.refl _ _⟩
 case round =>
  obtain ⟨h, hh, rfl, hT, hc⟩ := hrel;have hz1 := HB1.out.size;have hz3 := HB3.out.size;have hdj : Dj G F := fun x hx hf => by have h1 := HGI.out x hx; have h2 := (HF.out x hf).1; omega
  have hpm := (HPS.out.below HB3.out).chg hc hdj;have hgcF : ¬ F gc := fun hf => by have h2 := (HF.out gc hf).1; have h3 := HGC.out; have h4 := HX1.out.lt; omega
  have hcx := (HX1.out.below HB3.out).chg hc hgcF;have hct := (HCT.out.below HB3.out).chg hc (HAG.out.dj hdj);by_cases hlt : h < np
  · have K : h < ps.length := by rw [HPL.out]; exact hlt
    obtain ⟨b2, o2, hA2, hb2, hcl⟩ := hpm.get K;have hrw := hpm.row _ (List.getElem_mem K);have hlo := HLD.out h K;have HTK := zI (show ps.take (h + 1) = ps.take h ++ [ps[h]] from List.take_succ_eq_append_getElem K);generalize ps[h]'K = x at *;have HLS := zI (Jul ⟨⟨now, nm, ts, fl⟩, List.replicate n []⟩ (ps.take h) x);rw [<- HTK.out] at HLS;have HTL := zI (show (Jf5 ⟨⟨now, nm, ts, fl⟩, List.replicate n []⟩ (ps.take h)).tabs.length = n from by rw [Jpn]; simp);generalize Jf5 ⟨⟨now, nm, ts, fl⟩, List.replicate n []⟩ (ps.take h) = T at *;obtain ⟨⟨eid, et, es, bl⟩, xl, xA, xc, xB, xd⟩ := x;unfold ldT at HLS;dsimp only at HLS;obtain ⟨hl1, ⟨sh, hl2, hl3, hl4, hl5, hl6⟩, hl7, hl8, hl9, hl10⟩ := hlo;dsimp only at hl1 hl2 hl5 hl6 hl7 hl8 hl9 hl10;obtain ⟨m, hm⟩ : ∃ m, m = bl.length := ⟨_, rfl⟩;obtain ⟨rn, hrn⟩ : ∃ rn, rn = xl.length := ⟨_, rfl⟩;have p0 : wr.cell? ⟨b2, o2 + h * 7, none⟩ = some (.int .u64 (eid : Int)) := hcl.c0;have p1 : wr.cell? ⟨b2, o2 + h * 7 + 1, none⟩ = some (.int .i64 (et : Int)) := hcl.c1;have p2 : wr.cell? ⟨b2, o2 + h * 7 + 2, none⟩ = some (.int .i64 (es : Int)) := hcl.c2;have p3 : wr.cell? ⟨b2, o2 + h * 7 + 3, none⟩ = some (.int .i64 0) := hcl.c3;have p4 : wr.cell? ⟨b2, o2 + h * 7 + 4, none⟩ = some (.int .i64 (m : Int)) := by rw [hm]; exact hcl.c4
    have p5 : wr.cell? ⟨b2, o2 + h * 7 + 5, none⟩ = some (.slice (adr xA) m xc) := by rw [hm]; exact hcl.c5
    have p6 : wr.cell? ⟨b2, o2 + h * 7 + 6, none⟩ = some (.slice (adr xB) rn xd) := by rw [hrn]; exact hcl.c6
    subst hA2;obtain ⟨gb, hgb⟩ : ∃ gb, gb = wr.heap.size := ⟨_, rfl⟩;obtain ⟨wb, hwb⟩ : ∃ wb, wb = wr.alloc (.cells #[.int .u64 (eid : Int), .int .i64 (et : Int), .int .i64 (es : Int), .int .i64 0, .int .i64 (m : Int), .slice (adr xA) m xc, .slice (adr xB) rn xd] 144) := ⟨_, rfl⟩;have hxb := Bx.new wr 144 #[.int .u64 (eid : Int), .int .i64 (et : Int), .int .i64 (es : Int), .int .i64 0, .int .i64 (m : Int), .slice (adr xA) m xc, .slice (adr xB) rn xd];have hbb := (Below.refl wr.heap.size wr).alloc (Nat.le_refl _) (.cells #[.int .u64 (eid : Int), .int .i64 (et : Int), .int .i64 (es : Int), .int .i64 0, .int .i64 (m : Int), .slice (adr xA) m xc, .slice (adr xB) rn xd] 144);rw [<- hwb, <- hgb] at hxb;rw [<- hwb] at hbb;have hrc := hrw.rc.below hbb;rw [<- hrn] at hrc;have het : et < n := by rw [<- HLT.out]; exact hl1
    have HLO := zI (J1o (F := F) (gt := gt) (t := T) eid et es m (adr xA) xc (adr xB) rn xd xl nm A n c ts wb (hT.below hbb) (hct.below hbb) (by rw [HTL.out]; exact het) HTL.out.symm sh hl2 ⟨hl3, hl4⟩ hl5 hrc (fun a e hf => hdj _ (hrw.inB a e) hf) (by rw [hrn]; exact hl7) hl6 hl8 hl9 (by rw [hrn]; exact hl10) hn5.2);rw [<- HLS.out] at HLO;have d5 : decide ((et : Int) < 5) = true := decide_eq_true (by omega);have d6 : decide ((5 : Int) <= (et : Int)) = false := decide_eq_false (by omega);have HWB := zI hwb;have HGB := zI hgb;have HCB := zI (hc.then_below hbb);have y0 := hxb.at_ 0 (v := .int .u64 (eid : Int)) rfl;have y1 := hxb.at_ 1 (v := .int .i64 (et : Int)) rfl;have y2 := hxb.at_ 2 (v := .int .i64 (es : Int)) rfl;have y3 := hxb.at_ 3 (v := .int .i64 0) rfl;have y4 := hxb.at_ 4 (v := .int .i64 (m : Int)) rfl;have y5 := hxb.at_ 5 (v := .slice (adr xA) m xc) rfl;have y6 := hxb.at_ 6 (v := .slice (adr xB) rn xd) rfl;have HXB := zI (hcx.below hbb);have HPB := zI hxb;have HGF := zI (show ¬ F gb from fun hf => by have h2 := (HF.out gb hf).2; have h3 := HZ3.out; have h4 := hc.size; omega);have x3 := HXB.out.at_ 3 (v := .string nm) rfl;have x4 := HXB.out.at_ 4 (v := .slice A n c) rfl;clear hz1 hz3 hdj hpm hgcF hcx hct hcl hrw hl1 hl2 hl3 hl4 hl5 hl6 hl7 hl8 hl9 hl10 hm hrn hgb hwb hxb hbb hrc hT hc hb2;go_upto_region 12 with fail
    rw [<- HWB.out, <- HGB.out];clear p0 p1 p2 p3 p4 p5 p6;go_wp2_with fail
    refine HLO.out.mono ?_;rintro e w7 ⟨rfl, hT7, hc7⟩;have HT7 := zI hT7;have HC7 := zI (HCB.out.trans hc7 (fun _ h => .inl h));have hx7 := HPB.out.chg hc7 HGF.out;clear hT7 hc7 y0 y1 y2 y3 y4 y5 y6 x3 x4;have y1 := hx7.at_ 1 (v := .int .i64 (et : Int)) rfl;clear hx7;go_wp2_with fail
    go_roundw
    case rel => exact ⟨h + 1, by omega, by go_num, HT7.out, HC7.out⟩
    case measure => simp [intOf]; omega
  · have hhe : h = np := by omega
    subst hhe;rw [show ps.take h = ps from List.take_of_length_le (by rw [HPL.out]; exact Nat.le_refl _), <- HT.out] at hT;have hbw : Below w.heap.size w wr := HB1.out.trans (((HB3.out).trans (hc.below (fun x hx => (HF.out x hx).1) HB3.out.size)).mono HB1.out.size)
    have HMK := zI (Jwr wr (by have := HLY.out.bd; have := HLY.out.n; omega) hT (by
     have h1 := hT.len;rw [HT.out, Jpn] 
     simp
     omega) HFW.out HND.out)
    have x6 := (HX.out.below hbw).at_ 6 (v := .int .i64 (R : Int)) rfl;have HBW := zI hbw;clear hbw hT hc hz1 hz3 hdj hpm hgcF hcx hct;go_wp2_with fail
    refine HMK.out.mono ?_;rintro e w9 ⟨g', rfl, hS9, hb9⟩;have HS9 := zI (hS9.sub (G := made w w9) (fun b hb => ⟨Nat.le_trans HBW.out.size hb.1, hb.2⟩) (fun b hb => hb.2));have HB9 := zI (HBW.out.trans (hb9.mono HBW.out.size));clear hS9 hb9 x6;go_wp2_with fail
    go_ret2;exact ⟨g', rfl, HS9.out, HB9.out⟩
end Go.Proofs.YtalkkhafcfhglaaGreatDoor
