/-
  Several texts in one: Tnew, Tis, Tload, SmpB, Tkes.
-/
import Derived.Test.YtalkkhafcfhglaaGreatDoorQ12
import Derived.Test.YtalkkhafcfhglaaGreatDoorQ5
set_option maxRecDepth 100000
set_option maxHeartbeats 4000000
namespace Go.Proofs.YtalkkhafcfhglaaGreatDoor
open Go.RowKit
theorem Jrt {w : World} {B : Nat} {e : TypeId} {k n c : Nat} {A : Option Addr} {xs : List Value} (h : w.ownsRow B e k (.slice A n c) n xs) : n <= c := by
 rcases h.2 with ⟨e1, e2⟩ | ⟨g, cap, cur, e1, _, _, hnc, _⟩
 · cases e1; omega
 · cases e1; exact hnc
theorem Jvz {w w0 : World} {e : TypeId} {k n c : Nat} {A : Option Addr} {xs : List Value} (h : w.ownsRow w0.heap.size e k (.slice A n c) n xs) : ∀ a, A = some a -> w0.heap.size <= a.block /\ a.block < w.heap.size := by
 intro a e1;subst e1;exact h.lt _ rfl
theorem Jru {w : World} {L : Option Addr} {k : Nat} {ga : Nat -> Nat} (h : Sl w L ((List.range k).map fun i => ptrV (ga i))) {i : Nat} (hi : i < k) : ∃ b off, L = some ⟨b, off, none⟩ /\ b < w.heap.size /\ w.cell? ⟨b, off + i, none⟩ = some (.pointer (some ⟨ga i, 0, none⟩)) := by
 obtain ⟨b, off, e, hb, hc⟩ := h.get (j := i) (by simpa using hi);exact ⟨b, off, e, hb, by simpa [ptrV] using hc⟩
def evF (ts : List Ti) (i : Nat) : Int := ((ts[i]?).map Ti.ev).getD 0
theorem J4z {ts : List Ti} {i : Nat} (h : i < ts.length) : evF ts i = (ts[i]).ev := by unfold evF; rw [List.getElem?_eq_getElem h]; rfl
def upd (g : Nat -> Nat) (k v : Nat) : Nat -> Nat := fun i => if i = k then v else g i
theorem upd_same (g : Nat -> Nat) (k v : Nat) : upd g k v k = v := by simp [upd]
theorem Jgx {g : Nat -> Nat} {k v i : Nat} (h : i < k) : upd g k v i = g i := by unfold upd; rw [if_neg (by omega)]
theorem Jv0 (ga : Nat -> Nat) (k v : Nat) : ((List.range k).map fun i => ptrV (ga i)) ++ [ptrV v] = (List.range (k + 1)).map fun i => ptrV (upd ga k v i) := by
 rw [List.range_succ, List.map_append]
 congr 1
 · exact List.map_congr_left (fun i hi => by rw [Jgx (List.mem_range.1 hi)])
 · simp [upd_same]
structure Jjg (w0 w : World) (v : Value) (k : Nat) (ga gm : Nat -> Nat) (ev : Nat -> Int) (tab : Nat -> List Rc) : Prop where
 row : w.ownsRow w0.heap.size 126 1 v k ((List.range k).map fun i => ptrV (ga i))
 tab : ∀ i, i < k -> Jam w (ga i) (gm i) (ev i) (tab i)
 apart : ∀ i j, i < k -> j < k -> gm i = gm j -> i = j
 low : ∀ i, i < k -> w0.heap.size <= ga i /\ w0.heap.size <= gm i
section
variable {w0 w w' : World} {v : Value} {k : Nat} {ga gm : Nat -> Nat} {ev : Nat -> Int} {tab : Nat -> List Rc}
theorem Jjg.below (h : Jjg w0 w v k ga gm ev tab) (hb : Below w.heap.size w w') : Jjg w0 w' v k ga gm ev tab :=
 ⟨Jaj h.row hb, fun i hi => (h.tab i hi).below hb, h.apart, h.low⟩
theorem Jjg.grown (h : Jjg w0 w v k ga gm ev tab) {b : Nat} (hg : w.grownBy w' (some b)) {T : TypeId} {cs : Array Value} (hb : Bx w b T cs) (hT1 : T ≠ 217) (hT2 : T ≠ 126) : Jjg w0 w' v k ga gm ev tab :=
 ⟨h.row.kept hg (.inr fun e => hb.not_row h.row hT2 e.symm), fun i hi => (h.tab i hi).grown hg
   (fun e => by cases e; have := (h.tab i hi).blk; rw [hb.blk] at this; injection this with this; injection this with _ this; exact hT1 this)
   (fun e => by cases e; have := (h.tab i hi).map.nocell 0; obtain ⟨D, ⟨es, c, h1, _⟩, _⟩ := (h.tab i hi).map.own; rw [hb.blk] at h1; cases h1), h.apart, h.low⟩
theorem Jjg.snoc (h : Jjg w0 w v k ga gm ev tab) {w1 w2 : World} {g m : Nat} {l : List Rc} {v' : Value} (ht : Jam w1 g m (ev k) l) (hb : Below w.heap.size w w1) (hg1 : w.heap.size <= g) (hm1 : w.heap.size <= m) (h0 : w0.heap.size <= w.heap.size)
  (hr : w2.ownsRow w0.heap.size 126 1 v' (k + 1) (((List.range k).map fun i => ptrV (ga i)) ++ [ptrV g])) (hg : w1.grownBy w2 v.ownBlock) (htab : tab k = l) : Jjg w0 w2 v' (k + 1) (upd ga k g) (upd gm k m) ev tab := by
 have hb1 := h.below hb
 have far : ∀ {a b : Nat} {e : Int} {x : List Rc}, Jam w1 a b e x -> Jam w2 a b e x := by
  intro a b e x hx;refine hx.grown hg (fun e2 => ?_) (fun e2 => ?_)
  · obtain ⟨cur, hc⟩ := Jcm hb1.row e2.symm
    have := hx.blk;rw [hc] at this;injection this with this;injection this with _ this;exact absurd this (by decide)
  · obtain ⟨cur, hc⟩ := Jcm hb1.row e2.symm
    obtain ⟨D, ⟨es, c, h1, _⟩, _⟩ := hx.map.own;rw [hc] at h1; cases h1
 refine ⟨by rw [Jv0] at hr; exact hr, fun i hi => ?_, fun i j hi hj e => ?_, fun i hi => ?_⟩
 · by_cases e : i = k
   · subst e
     rw [upd_same, upd_same, htab];exact far ht
   · have hi' : i < k := by omega
     rw [Jgx hi', Jgx hi'];exact far (hb1.tab i hi')
 · by_cases e1 : i = k
   · by_cases e2 : j = k
     · omega
     · have hj' : j < k := by omega
       rw [e1, upd_same, Jgx hj'] at e;have := (h.tab j hj').map.lt;omega
   · have hi' : i < k := by omega
     by_cases e2 : j = k
     · rw [e2, upd_same, Jgx hi'] at e
       have := (h.tab i hi').map.lt;omega
     · have hj' : j < k := by omega
       rw [Jgx hi', Jgx hj'] at e;exact h.apart i j hi' hj' e
 · by_cases e : i = k
   · subst e
     rw [upd_same, upd_same];omega
   · have hi' : i < k := by omega
     rw [Jgx hi', Jgx hi'];exact h.low i hi'
end
structure TNew (w0 w : World) (now : Int) (nm : ByteArray) (vA vB : Value) (ts : List Ti) (tab : Nat -> List Rc) (k : Nat) : Prop where
 ex : ∃ v ga gm, Bx w w0.heap.size 125 #[.int .i64 now, .string nm, vA, vB, v] /\ Jjg w0 w v k ga gm (evF ts) tab
 bel : Below w0.heap.size w0 w
theorem TNew.next {w0 w5 w6 w7 : World} {now : Int} {nm : ByteArray} {vA vB v : Value} {ts : List Ti} {tab : Nat -> List Rc} {q g6 m6 c7 : Nat} {A7 : Option Addr} {ga gm : Nat -> Nat}
  (hX : Bx w5 w0.heap.size 125 #[.int .i64 now, .string nm, vA, vB, v]) (hT : Jjg w0 w5 v q ga gm (evF ts) tab) (hb : Below w0.heap.size w0 w5) (ht : Jam w6 g6 m6 (evF ts q) (tab q)) (hbw : Below w5.heap.size w5 w6)
  (hg6 : w5.heap.size <= g6) (hm6 : w5.heap.size <= m6) (ho7 : w7.ownsRow w0.heap.size 126 1 (.slice A7 (q + 1) c7) (q + 1) (((List.range q).map fun i => ptrV (ga i)) ++ [ptrV g6])) (hg7 : w6.grownBy w7 v.ownBlock) :
  TNew w0 (w7.setCell ⟨w0.heap.size, 4, none⟩ (.slice A7 (q + 1) c7)) now nm vA vB ts tab (q + 1) := by
 have hT6 := hT.below hbw;have hX7 := (hX.below hbw).grown hg7 ((hX.below hbw).not_row hT6.row (by decide));have hb6 := hb.trans (hbw.mono hb.size);have hs9 := Jai w7 w0.heap.size 4 (.slice A7 (q + 1) c7);have hsn := hT.snoc (v' := .slice A7 (q + 1) c7) (g := g6) (m := m6) (l := tab q) ht hbw hg6 hm6 hb.size ho7 hg7 rfl;exact ⟨⟨_, _, _, hX7.set 4 _, hsn.grown hs9 hX7 (by decide) (by decide)⟩, (Jb8 hT6.row hg7 hb6 hb6.size).trans ⟨hs9.os, hs9.tape, hs9.output, hs9.size, fun b hlt => hs9.block b (Nat.lt_of_lt_of_le hlt (Nat.le_trans hb6.size hg7.size)) (fun e => by cases e; omega)⟩⟩
theorem TNew.done {w w0 wr : World} {r : Rch} {A B : Option Addr} {c m d n : Nat} {tab : Nat -> List Rc} (h : TNew w0 wr r.now r.nm (.slice A n c) (.slice B m d) r.ts tab n) (hR : Jef w0 A n B m r) (hA : AIn (made w w0) A) (hB : AIn (made w w0) B)
  (hc : n <= c) (hm : m <= 1000000) (hs : w.heap.size <= w0.heap.size) (hn : n <= 1000) (hnm : r.nm.size <= maxLen) : Jal wr (made w wr) w0.heap.size ⟨r, (List.range n).map tab⟩ := by
 obtain ⟨⟨v, ga, gm, hX, hTB⟩, hbel⟩ := h;obtain ⟨Lv, cv, rfl, hsl⟩ := Jaq hTB.row;have hsz := hbel.size;have hlo := hTB.low;refine ⟨⟨A, c, B, m, d, Lv, cv, ga, gm, by simpa using hX, by simpa using hR.below hbel, by simpa using hc, hm, fun a e => Jp3 (hA a e) hsz, fun a e => Jp3 (hB a e) hsz, ?_⟩, ⟨hs, hX.lt⟩, Ins.made, by simpa using hn, hnm⟩;refine ⟨by simpa using hsl, fun i hi => ?_, fun i j hi hj => hTB.apart i j (by simpa using hi) (by simpa using hj), fun i hi => ?_, fun a e => ?_⟩
 · have hi' : i < n := by simpa using hi
   have := hTB.tab i hi';have e2 : Tv.tab ⟨r, (List.range n).map tab⟩ i = tab i := by simp [Tv.tab, hi']
   rw [e2];exact this
 · have hi' : i < n := by simpa using hi
   have h1 := hlo i hi';exact ⟨⟨by omega, (hTB.tab i hi').lt⟩, ⟨by omega, (hTB.tab i hi').map.lt⟩⟩
 · have := Jvz hTB.row a e
   exact ⟨by have := this.1; omega, this.2⟩
structure Jmg (ts : List Ti) (fs : List Int) : Prop where
 len : fs.length <= ts.length
 ok : ∀ i (h : i < fs.length) (h' : i < ts.length), 0 <= fs[i] /\ onB fs[i] ts[i].ev = true
theorem Jv1 (nm : ByteArray) (A : Option Addr) (n c : Nat) (ts : List Ti) (now : Int) (B : Option Addr) (m d : Nat) (fs : List Int) (w : World)
  (hck : ∀ W, Tis W A n ts -> Calls Tryz.prog 55 #[polV nm A n c] W fun e w' => e = .returned (.tuple #[.int .i64 0, .int .i64 0]) /\ Below W.heap.size W w')
  (hA : Tis w A n ts) (hc : n <= c) (hB : Ints w .i64 B m fs) (hnow : 0 <= now /\ now <= 1099511627776) (hf : Jmg ts fs) (hev : ∀ t ∈ ts, 1 <= t.ev) (hn : n <= 1000) (hnm : nm.size <= maxLen) :
  Calls Tryz.prog 26 #[polV nm A n c, .int .i64 now, .slice B m d] w fun e w' => ∃ g, e = .returned (.tuple #[.pointer (some ⟨g, 0, none⟩), .int .i64 0]) /\ Jal w' (made w w') g ⟨⟨now, nm, ts, fs⟩, List.replicate n []⟩ /\ Below w.heap.size w w' := by
 obtain ⟨w1, hw1⟩ : ∃ w1, w1 = w.alloc (.cells #[.string nm, .slice A n c] 63) := ⟨_, rfl⟩;have hba := (Below.refl w.heap.size w).alloc (Nat.le_refl _) (.cells #[.string nm, .slice A n c] 63);have hbx := Bx.new w 63 #[.string nm, .slice A n c];rw [<- hw1] at hba hbx;have HW1 := zI hw1;have HB1 := zI hba;have HX1 := zI hbx;have HA1 := zI (hA.below hba);have HI1 := zI (hB.below hba);have HCK := zI (hck w1 (hA.below hba));have HLA := zI hA.len;have HLB := zI hB.len;have hmn : m <= n := by have := hf.len; rw [hA.len, hB.len] at this; exact this
 have HFL := zI hf;have HEV := zI hev;have HNM := zI hnm;have hn0 := hnow.1;have hn1 := hnow.2;have d1 : decide (now < 0) = false := decide_eq_false (by omega);have d2 : decide (1099511627776 < now) = false := decide_eq_false (by omega);have d3 : decide ((n : Int) < (m : Int)) = false := decide_eq_false (by omega);have d4 : decide (n < m) = false := decide_eq_false (by omega);have s0 := hbx.at_ 0 rfl;have s1 := hbx.at_ 1 rfl;clear hw1 hba hbx hA hB hck hf hev hnm hnow;go_enter Tryz.func26, Tryz.ntmps26;go_upto_region 1 with fail
 rw [<- HW1.out];go_wp2_with fail
 refine HCK.out.mono ?_;rintro e w2 ⟨rfl, hb2⟩;have HX2 := zI (HX1.out.below hb2);have HA2 := zI (HA1.out.below hb2);have HI2 := zI (HI1.out.below hb2);have HB2 := zI (HB1.out.trans (hb2.mono HB1.out.size));clear s0 s1 hb2;have s0 := HX2.out.at_ 0 rfl;have s1 := HX2.out.at_ 1 rfl;go_wp2_with fail
 go_loopw [39] (fun i wr => ∃ k : Nat, k <= m /\ i = .int .i64 (k : Int) /\ Below w2.heap.size w2 wr) (fun i _ => m - (intOf i).toNat)
 case atStart => exact ⟨0, Nat.zero_le _, rfl, Below.refl _ _⟩
 case round =>
  obtain ⟨k, hk, rfl, hb⟩ := hrel;by_cases hlt : k < m
  · have HA := zI (HA2.out.below hb)
    have KB : k < fs.length := by rw [HLB.out]; exact hlt
    have KA : k < ts.length := by rw [HLA.out]; omega
    obtain ⟨b, off, rfl, _, hcell⟩ := (HI2.out.below hb).get KB;obtain ⟨ba, oa, rfl, _, T0, T1, T2, T3⟩ := HA.out.get KA;obtain ⟨hf0, hf1⟩ := HFL.out.ok k KB KA;have hwf := HI2.out.wf _ (List.getElem_mem KB);have hok := HA2.out.ok _ (List.getElem_mem KA);have HON := zI (fun W => Jko fs[k] ts[k].ev W (Jp6 hwf) hok.ev);rw [hf1] at HON;have s1 := (HX2.out.below hb).at_ 1 rfl;have df : decide (fs[k] < 0) = false := decide_eq_false (by omega);have hkn : (k : Int) < (n : Int) := (by omega);generalize fs[k]'KB = f at *;generalize (ts[k]'KA) = tt at *;have HB := zI hb;clear hb hwf hok hf0 hf1;go_wp2_with fail
    refine (HON.out _).mono ?_;rintro e w3 ⟨rfl, hw⟩;subst hw;go_wp2_with fail
    go_roundw
    case rel => exact ⟨k + 1, by omega, by go_num, HB.out⟩
    case measure => simp [intOf]; omega
  · have HA3 := zI (HA2.out.below hb)
    have HX3 := zI (HX2.out.below hb);have HB3 := zI (HB2.out.trans (hb.mono HB2.out.size));have HRO := zI (Jje now nm A n c ts B m d fs wr (HA2.out.below hb) (HI2.out.below hb) (by omega) (by omega) (by omega));have s0 := HX3.out.at_ 0 rfl;have s1 := HX3.out.at_ 1 rfl;clear hb;go_wp2_with fail
    refine HRO.out.mono ?_;rintro e w4 ⟨A', c', B', d', rfl, hR, hoA, hoB, hb4⟩;have HR4 := zI hR;have HIA := zI (Jcl hoA);have HIB := zI (Jcl hoB);have HCA := zI (Jrt hoA);have HA4 := zI (HA3.out.below hb4);have HX4 := zI (HX3.out.below hb4);have HB4 := zI (HB3.out.trans (hb4.mono HB3.out.size));have HS4 := zI hb4.size;have HBX := zI (Bx.new w4 125 #[.int .i64 now, .string nm, .slice A' n c', .slice B' m d', .slice none 0 0]);have HBA := zI ((Below.refl w4.heap.size w4).alloc (Nat.le_refl _) (.cells #[.int .i64 now, .string nm, .slice A' n c', .slice B' m d', .slice none 0 0] 125));have hlt4 := HX4.out.lt;have s1' := HX4.out.at_ 1 rfl;clear s0 s1 hR hoA hoB hb4;go_wp2_with fail
    go_loopw [67] (fun i wr => ∃ k : Nat, k <= n /\ i = .int .i64 (k : Int) /\ TNew w4 wr now nm (.slice A' n c') (.slice B' m d') ts (fun _ => []) k) (fun i _ => n - (intOf i).toNat)
    case atStart => exact ⟨0, Nat.zero_le _, rfl, ⟨.slice none 0 0, fun _ => 0, fun _ => 0, HBX.out, ⟨World.ownsRow_nil _ _ _ _, by omega, by omega, by omega⟩⟩, HBA.out⟩
    case round =>
     obtain ⟨q, hq, rfl, hT⟩ := hrel;obtain ⟨⟨v, ga, gm, hX, hTB⟩, hbel⟩ := hT;by_cases hlt2 : q < n
     · have KA : q < ts.length := by rw [HLA.out]; omega
       have HAQ := zI (HA4.out.below hbel);obtain ⟨ba, oa, rfl, _, T0, T1, T2, T3⟩ := HAQ.out.get KA;have HEQ := zI (show evF ts q = ts[q].ev from J4z KA);have HE1 := zI (HEV.out _ (List.getElem_mem KA));obtain ⟨Lv, cv, rfl, _⟩ := Jaq hTB.row;generalize (ts[q]'KA) = tt at *;have hba5 := (Below.refl wr.heap.size wr).alloc (Nat.le_refl _) (.cells #[.string tt.nm, .int .i64 tt.ev, .int .i64 tt.kp, .int .i64 tt.sh] 119);obtain ⟨w5, hw5⟩ : ∃ w5, w5 = wr.alloc (.cells #[.string tt.nm, .int .i64 tt.ev, .int .i64 tt.kp, .int .i64 tt.sh] 119) := ⟨_, rfl⟩;have hbt := Bx.new wr 119 #[.string tt.nm, .int .i64 tt.ev, .int .i64 tt.kp, .int .i64 tt.sh];rw [<- hw5] at hba5 hbt;have HW5 := zI hw5;have HX5 := zI (hX.below hba5);have HT5 := zI (hTB.below hba5);have HB5 := zI (hbel.trans (hba5.mono hbel.size));clear hw5 hX hTB hbel hba5;go_upto_region 16 with fail
       rw [<- HW5.out];have t1 := hbt.at_ 1 rfl;have p4 := HX5.out.at_ 4 rfl;have hdr := (Below.refl w5.heap.size w5).drew;have HXD := zI (HX5.out.below hdr);have HTD := zI (HT5.out.below hdr);have HBD := zI (HB5.out.trans (hdr.mono HB5.out.size));have HQ := zI (show q + 1 <= 1000000 from by omega);have HMX := zI (show max tt.ev 1 = tt.ev from by have := HE1.out; omega);clear hdr
       go_region_law (first
        | (refine Jvx (by rfl) _ _ (by rfl) HT7.out.row (by rfl) (some ⟨w6.heap.size, 0, none⟩) 1 1 [.pointer (some ⟨g6, 0, none⟩)] (by rfl) rfl HSL.out HON.out HQ.out HB7.out.size ?_
           intro A7 c7 w7 ho7 hg7;have X8 := zI (HX7.out.grown hg7 (HX7.out.not_row HT7.out.row (by decide)));have d8 := X8.out.at_ 4 rfl;have f8 := X8.out.free 4)
        | (go_simp
           go_at_call 58
           refine (Jzb tt.ev _).mono ?_;rintro e w6 ⟨g6, m6, rfl, ht6, hb6, hg6, hm6⟩;have hb7 := hb6.alloc hb6.size (.cells #[.pointer (some ⟨g6, 0, none⟩)] 126);have HX6 := zI (HXD.out.below hb6);have HX7 := zI (HXD.out.below hb7);have HT7 := zI (HTD.out.below hb7);have HB7 := zI (HBD.out.trans (hb7.mono HBD.out.size));have HTA := zI (ht6.below ((Below.refl w6.heap.size w6).alloc (Nat.le_refl _) (.cells #[.pointer (some ⟨g6, 0, none⟩)] 126)));have HBW := zI hb7;have HSL := zI (Sl.new w6 126 w6.heap.size [.pointer (some ⟨g6, 0, none⟩)] #[.pointer (some ⟨g6, 0, none⟩)] rfl rfl);have HON := zI (show ∀ u ∈ [Value.pointer (some ⟨g6, 0, none⟩)], u.oneCell' = true from by intro u hu; rw [List.mem_singleton.1 hu]; rfl);have HGM := zI (And.intro hg6 hm6);have d6 := HX6.out.at_ 4 rfl;have d7 := HX7.out.at_ 4 rfl;clear ht6 hb6 hb7 hg6 hm6))
       all_goals
        have hS9 : TNew w4 (w7.setCell ⟨w4.heap.size, 4, none⟩ (.slice A7 (q + 1) c7)) now nm (.slice A' n c') (.slice B' m d') ts (fun _ => []) (q + 1) :=
         TNew.next HX5.out HT5.out HB5.out (by rw [HEQ.out, <- HMX.out]; exact HTA.out) (((Below.refl _ _).drew).trans (HBW.out.mono (by simp))) HGM.out.1 HGM.out.2 ho7 hg7
        go_wp2_with fail
        go_roundw
        case rel => exact ⟨q + 1, by omega, by go_num, hS9⟩
        case measure => simp [intOf]; omega
     · have hqe : q = n := by omega
       subst hqe;obtain ⟨Lv, cv, rfl, _⟩ := Jaq hTB.row
       have HE := zI (show Jal wr (made w wr) w4.heap.size ⟨⟨now, nm, ts, fs⟩, List.replicate q []⟩ from by
        have := TNew.done (w := w) (r := ⟨now, nm, ts, fs⟩) (tab := fun _ => []) ⟨⟨_, ga, gm, hX, hTB⟩, hbel⟩ HR4.out (fun a e => Jc9 (HIA.out a e) HB3.out.size) (fun a e => Jc9 (HIB.out a e) HB3.out.size) HCA.out (by omega) (Nat.le_trans HB3.out.size HS4.out) hn HNM.out
        rwa [show (List.range q).map (fun _ => ([] : List Rc)) = List.replicate q [] from by apply List.ext_getElem <;> simp] at this)
       have HB9 := zI (HB4.out.trans (hbel.mono HB4.out.size));clear hX hTB hbel;go_wp2_with fail
       go_ret2;exact ⟨_, rfl, HE.out, HB9.out⟩
theorem Jal.tabs {w : World} {F : Nat -> Prop} {g : Nat} {t : Tv} (h : Jal w F g t) : ∃ A c B m d L cl ga gm, Bx w g 125 #[.int .i64 t.r.now, .string t.r.nm, .slice A t.tabs.length c, .slice B m d, .slice L t.tabs.length cl] /\ Jef w A t.tabs.length B m t.r /\ Job w F L t.tabs.length ga gm t.r.ev t.tab := by
 obtain ⟨A, c, B, m, d, L, cl, ga, gm, h1, h2, _, _, _, _, h3⟩ := h.ex;exact ⟨A, c, B, m, d, L, cl, ga, gm, h1, h2, h3⟩
theorem Jmh {F : Nat -> Prop} {g : Nat} {t : Tv} (w : World) (h : Jal w F g t) (h1 : 1 <= t.tabs.length) :
  Calls Tryz.prog 91 #[.pointer (some ⟨g, 0, none⟩)] w fun e w' => e = .returned (.bool false) /\ w = w' := by
 obtain ⟨A, c, B, m, d, L, cl, ga, gm, hX, _, _⟩ := h.tabs;obtain ⟨n, hn⟩ : ∃ n, n = t.tabs.length := ⟨_, rfl⟩;rw [<- hn] at hX h1;have s4 := hX.at_ 4 (v := .slice L n cl) rfl;have d1 : ((n : Int) == 0) = false := by rw [beq_eq_false_iff_ne]; omega
 clear h hX hn;go_enter Tryz.func91, Tryz.ntmps91;go_wp2;go_ret;exact ⟨rfl, rfl⟩
theorem J17 {F : Nat -> Prop} {g : Nat} {t : Tv} (w : World) (h : Jal w F g t) (i : Nat) (hi : i < t.tabs.length) :
  Calls Tryz.prog 139 #[.pointer (some ⟨g, 0, none⟩), .int .i64 (i : Int)] w fun e w' => e = .returned (.bool true) /\ w = w' := by
 obtain ⟨A, c, B, m, d, L, cl, ga, gm, hX, _, _⟩ := h.tabs;have HN := zI (Jmh w h (by omega));obtain ⟨n, hn⟩ : ∃ n, n = t.tabs.length := ⟨_, rfl⟩;rw [<- hn] at hX hi;have s4 := hX.at_ 4 (v := .slice L n cl) rfl;have d1 : decide ((i : Int) < (n : Int)) = true := decide_eq_true (by omega);have d2 : decide (i < n) = true := decide_eq_true hi;have d3 : decide ((0 : Int) <= (i : Int)) = true := decide_eq_true (by omega);clear h hX hn;go_enter Tryz.func139, Tryz.ntmps139;go_wp2_with fail
 refine HN.out.mono ?_;rintro e w1 ⟨rfl, hw⟩;subst hw;go_wp2_with fail
 go_ret;exact ⟨rfl, rfl⟩
theorem Jv2 {F : Nat -> Prop} {g : Nat} {t : Tv} (w : World) (h : Jal w F g t) (i : Nat) (hi : i < t.tabs.length) :
  Calls Tryz.prog 173 #[.pointer (some ⟨g, 0, none⟩), .int .i64 (i : Int)] w fun e w' => ∃ g2 mm2, e = .returned (.pointer (some ⟨g2, 0, none⟩)) /\ Jam w' g2 mm2 (t.r.ev i) (t.tab i) /\ Below w.heap.size w w' /\ w.heap.size <= g2 /\ w.heap.size <= mm2 := by
 obtain ⟨A, c, B, m, d, L, cl, ga, gm, hX, _, hT⟩ := h.tabs;have HI := zI (J17 w h i hi);have HC := zI (Joa (hT.tab i hi));obtain ⟨n, hn⟩ : ∃ n, n = t.tabs.length := ⟨_, rfl⟩;rw [<- hn] at hX hi hT;obtain ⟨b, off, rfl, _, hcell⟩ := Jru hT.row hi;have s4 := hX.at_ 4 (v := .slice (some ⟨b, off, none⟩) n cl) rfl;clear h hX hn hT;go_enter Tryz.func173, Tryz.ntmps173;go_wp2_with fail
 refine HI.out.mono ?_;rintro e w1 ⟨rfl, hw⟩;subst hw;go_wp2_with fail
 refine HC.out.mono ?_;rintro e w2 ⟨g2, mm2, rfl, h2⟩;have H2 := zI h2;clear h2;go_wp2_with fail
 go_ret;exact ⟨g2, mm2, rfl, H2.out⟩
theorem Jmi {F : Nat -> Prop} {g : Nat} {t : Tv} (w : World) (h : Jal w F g t) (i : Nat) (hi : i < t.tabs.length) (hfew : (t.tab i).length < 1000000) :
  Calls Tryz.prog 104 #[.pointer (some ⟨g, 0, none⟩), .int .i64 (i : Int)] w fun e w' => ∃ v, e = .returned v /\ w'.ownsRow w.heap.size 169 7 v (t.tab i).length ((t.tab i).flatMap Rc.cells) /\ Below w.heap.size w w' := by
 have HT := zI (Jv2 w h i hi);clear h;go_enter Tryz.func104, Tryz.ntmps104;go_wp2_with fail
 refine HT.out.mono ?_;rintro e w1 ⟨g2, mm2, rfl, ht, hb, _, _⟩;have HA := zI (Jra ht hfew);have HB := zI hb;clear ht hb;go_wp2_with fail
 refine HA.out.mono ?_;rintro e w2 ⟨v, rfl, ho, hb2⟩;have HO := zI ho;have HB2 := zI (HB.out.trans (hb2.mono HB.out.size));obtain ⟨Av, cv, rfl, _⟩ := Jaq ho;clear ho hb2;go_wp2_with fail
 go_ret;exact ⟨_, rfl, Jdp HO.out HB.out.size, HB2.out⟩
def Jbt (t : Tv) : Nat -> Int
 | 0 => 0
 | k + 1 => Jbt t k + Jhr (t.r.sh k) (t.tab k)
def Tv.need (t : Tv) : Int := Jbt t t.tabs.length
def Tv.setTab (t : Tv) (i : Nat) (l : List Rc) : Tv := ⟨t.r, t.tabs.set i l⟩
theorem Tv.setTab_len (t : Tv) (i : Nat) (l : List Rc) : (t.setTab i l).tabs.length = t.tabs.length := by simp [Tv.setTab]
theorem Tv.setTab_same {t : Tv} {i : Nat} {l : List Rc} (h : i < t.tabs.length) : (t.setTab i l).tab i = l := by simp [Tv.setTab, Tv.tab, h]
theorem Tv.setTab_other {t : Tv} {i j : Nat} {l : List Rc} (h : j ≠ i) : (t.setTab i l).tab j = t.tab j := by
 simp only [Tv.setTab, Tv.tab, List.getD_eq_getElem?_getD, List.getElem?_set];rw [if_neg (fun e => h e.symm)]
theorem Tv.setTab_twice (t : Tv) (i : Nat) (l k : List Rc) : (t.setTab i l).setTab i k = t.setTab i k := by simp [Tv.setTab]
theorem Tv.setTab_id {t : Tv} {i : Nat} (h : i < t.tabs.length) : t.setTab i (t.tab i) = t := by
 cases t with
 | mk r tabs =>
   simp only [Tv.setTab, Tv.tab] at *
   congr 1
   apply List.ext_getElem?;intro j;rw [List.getElem?_set];split
   · next e => subst e; simp [h]
   · rfl
theorem Jal.focus {w : World} {F : Nat -> Prop} {g : Nat} {t : Tv} (h : Jal w F g t) (i : Nat) (hi : i < t.tabs.length) :
  ∃ b off cl ga gm, w.cell? ⟨g, 4, none⟩ = some (.slice (some ⟨b, off, none⟩) t.tabs.length cl) /\ b < w.heap.size /\ w.cell? ⟨b, off + i, none⟩ = some (.pointer (some ⟨ga, 0, none⟩)) /\ Jam w ga gm (t.r.ev i) (t.tab i) /\ F gm /\
   ∀ w1 w' l', Below w.heap.size w w1 -> w1.grownBy w' (some gm) -> Jam w' ga gm (t.r.ev i) l' -> Jal w' F g (t.setTab i l') /\ Chg F w w' /\ w'.heap[g]? = w.heap[g]? := by
 obtain ⟨A, c, B, m, d, L, cl, ga, gm, hX, hR, hc, hm, hFA, hFB, hT⟩ := h.ex;obtain ⟨b, off, e, hb, hcell⟩ := Jru hT.row hi;subst e;refine ⟨b, off, cl, ga i, gm i, hX.at_ 4 rfl, hb, hcell, hT.tab i hi, (hT.ina i hi).2, fun w1 w' l' hb1 hg ht => ?_⟩
 have hM : ∀ cs T fr, w.heap[gm i]? ≠ some (.cells cs T fr) := by
  intro cs T fr e;obtain ⟨D, ⟨es, k, h1, _⟩, _⟩ := (hT.tab i hi).map.own;rw [e] at h1; cases h1
 have hC : Chg (fun x => x = gm i) w w' := (Chg.of_below hb1).trans (Chg.of_grown (F := fun x => x = gm i) hg (fun x e => by cases e; rfl)) (fun x e => .inl e)
 have far : ∀ {A : Option Addr} {xs : List Value}, Sl w A xs -> Sl w' A xs := by
  intro A xs hs;refine ⟨fun hne => ?_⟩;obtain ⟨b', o', e, hb', hc'⟩ := hs.at_ hne;subst e
  have hne' : b' ≠ gm i := by
   intro e;have := hc' 0 (xs[0]'(List.length_pos_iff.2 hne)) (by rw [List.getElem?_eq_getElem (List.length_pos_iff.2 hne)]);rw [e, Nat.add_zero] at this;obtain ⟨D, ⟨es, k, h1, _⟩, _⟩ := (hT.tab i hi).map.own;simp [World.cell?, h1] at this
  exact ⟨b', o', rfl, Nat.lt_of_lt_of_le hb' hC.size, fun j u hu => (hC.cell (p := ⟨b', o' + j, none⟩) hb' hne').trans (hc' j u hu)⟩
 have hgX : g ≠ gm i := fun e => hM _ _ _ (by rw [<- e]; exact hX.blk);have hlen : (t.setTab i l').tabs.length = t.tabs.length := t.setTab_len i l';refine ⟨⟨⟨A, c, B, m, d, some ⟨b, off, none⟩, cl, ga, gm, ?_, ?_, ?_, hm, hFA, hFB, ?_⟩, h.g, h.ins.up hC.size, by rw [hlen]; exact h.few, h.nm⟩, hC.sub (fun x e => by rw [e]; exact (hT.ina i hi).2), hC.block g hX.lt hgX⟩
 · rw [hlen]; exact hX.chg hC hgX
 · rw [hlen]; exact ⟨⟨far hR.ts.sl, hR.ts.len, hR.ts.n_le, hR.ts.ok⟩, ⟨far hR.fs.sl, hR.fs.len, hR.fs.n_le, hR.fs.wf⟩, hR.now⟩
 · rw [hlen]; exact hc
 · rw [hlen]
   refine ⟨far hT.row, fun j hj => ?_, hT.apart, hT.ina, hT.inl⟩;by_cases e : j = i
   · subst e
     rw [Tv.setTab_same hj];exact ht
   · rw [Tv.setTab_other e]
     refine (hT.tab j hj).chg hC (fun e2 => ?_) (fun e2 => e (hT.apart j i hj hi e2));exact hM _ _ _ (by rw [<- e2]; exact (hT.tab j hj).blk)
structure TLd (wr w' : World) (x : Rc) : Prop where
 box : Jbu w' wr.heap.size 0 x
 bel : Below wr.heap.size wr w'
theorem TLd.next {wr w1 w' : World} {x : Rc} (h : TLd wr w1 x) (hb : Below w1.heap.size w1 w') : TLd wr w' x := ⟨h.box.keep (Jaa hb none) (by simp), h.bel.trans (hb.mono h.bel.size)⟩
theorem J0a {F : Nat -> Prop} {g : Nat} {t : Tv} {A : Option Addr} {n c : Nat} {l : List Rc} (w : World) (h : Jal w F g t) (i : Nat) (hi : i < t.tabs.length) (hl : Rcs w A n l) (hA : AIn (fun b => ¬ F b) A) (hfew : (t.tab i).length + n < 1000000)
  (hall : ∀ r ∈ l, t.r.from_ i <= r.st /\ Jas (t.r.ev i) r = true) (hev : -9223372036854775808 <= t.r.ev i /\ t.r.ev i <= 9223372036854775807) :
  Calls Tryz.prog 71 #[.pointer (some ⟨g, 0, none⟩), .int .i64 (i : Int), .slice A n c] w fun e w' => e = .returned (.int .i64 (n : Int)) /\ Jal w' F g (t.setTab i (addL (t.r.ev i) (t.tab i) l)) /\ Chg F w w' := by
 have HI := zI (J17 w h i hi);have HT := zI h;have HR := zI hl;have HA := zI hA;have HALL := zI hall;have HLN := zI hl.len;have HEV := zI hev;have HN := zI h.len;clear h hl hA hall hev;go_enter Tryz.func71, Tryz.ntmps71;go_wp2_with fail
 refine HI.out.mono ?_;rintro e w1 ⟨rfl, hw⟩;subst hw;go_wp2_with fail
 go_loopw [7, 16] (fun s j wr => ∃ k : Nat, k <= n /\ j = .int .i64 (k : Int) /\ s = .int .i64 (k : Int) /\ Jal wr F g (t.setTab i (addL (t.r.ev i) (t.tab i) (l.take k))) /\ Chg F w wr) (fun _ j _ => n - (intOf j).toNat)
 case atStart => exact ⟨0, Nat.zero_le _, rfl, rfl, by simpa [addL, Tv.setTab_id hi] using HT.out, Chg.refl _ _⟩
 case round =>
  obtain ⟨k, hk, rfl, rfl, hTk, hC⟩ := hrel;by_cases hlt : k < n
  · have K : k < l.length := by rw [HLN.out]; exact hlt
    obtain ⟨b, off, rfl, hbl, R⟩ := (HR.out.chg hC HA.out).get K;have hal := HALL.out _ (List.getElem_mem K);have HOKX := zI (And.intro (HR.out.nm _ (List.getElem_mem K)) (And.intro (HR.out.st _ (List.getElem_mem K)) (HR.out.ok _ (List.getElem_mem K))));obtain ⟨x, hx⟩ : ∃ x, x = l[k] := ⟨_, rfl⟩;have HXK := zI hx;rw [<- hx] at R hal HOKX;clear hx;have hne : t.setTab i (addL (t.r.ev i) (t.tab i) (l.take k)) = t.setTab i (addL (t.r.ev i) (t.tab i) (l.take k)) := rfl;have hi' : i < (t.setTab i (addL (t.r.ev i) (t.tab i) (l.take k))).tabs.length := by rw [Tv.setTab_len]; exact hi
    have hsm := Tv.setTab_same (l := addL (t.r.ev i) (t.tab i) (l.take k)) hi
    have HNX := zI (show (t.setTab i (addL (t.r.ev i) (t.tab i) (l.take k))).setTab i (addL (t.r.ev i) (addL (t.r.ev i) (t.tab i) (l.take k)) [x]) = t.setTab i (addL (t.r.ev i) (t.tab i) (l.take (k + 1))) from by
     rw [Tv.setTab_twice, HXK.out, List.take_succ_eq_append_getElem K, addL, addL, addL, List.foldl_append])
    have HLE := zI (show (addL (t.r.ev i) (t.tab i) (l.take k)).length + 1 < 1000000 from by
     have := Jih (ev := t.r.ev i) (l := t.tab i) (rs := l.take k);rw [List.length_take] at this; omega)
    obtain ⟨b', off', cl, ga, gm, c4, hb', hptr, hTab, hFgm, wand⟩ := hTk.focus i hi';obtain ⟨A2, c2, B2, m2, d2, L2, cl2, ga2, gm2, hX, hRr, _⟩ := hTk.tabs;rw [Tv.setTab_len] at c4 hX hRr;rw [hsm] at hTab;generalize addL (t.r.ev i) (t.tab i) (l.take k) = Lk at *
    have HAD := zI (show ∀ W : World, Below wr.heap.size wr W -> Calls Tryz.prog 94 #[.pointer (some ⟨ga, 0, none⟩), .slice (some ⟨W.heap.size, 0, none⟩) 1 1] (W.alloc (.cells #[.string x.nm, .int .i64 x.st, .int .i64 x.ag.c, .int .i64 x.ag.hi, .int .u64 x.ag.lo, .int .i64 x.ag.mn, .int .i64 x.ag.mx] 169))
      fun e w' => e = .returned (.int .i64 1) /\ Jal w' F g (t.setTab i (addL (t.r.ev i) (t.tab i) (l.take (k + 1)))) /\ Chg F wr w' from fun W hW => by
     have hW1 := hW.alloc hW.size (.cells #[.string x.nm, .int .i64 x.st, .int .i64 x.ag.c, .int .i64 x.ag.hi, .int .u64 x.ag.lo, .int .i64 x.ag.mn, .int .i64 x.ag.mx] 169);refine (Jq9 _ (hTab.below hW1) (show Rcs _ (some ⟨W.heap.size, 0, none⟩) 1 [x] from ⟨Sl.new W _ _ _ _ rfl (by simp [Rc.cells, Ag.cells]), rfl, by decide, by simpa using HOKX.out.1, by simpa using HOKX.out.2.1, by simpa using HOKX.out.2.2⟩) HEV.out HLE.out).mono ?_;rintro e w' ⟨rfl, hT', hg'⟩;obtain ⟨h1, h2, _⟩ := wand _ _ _ hW1 hg' hT';have h1' : Jal w' F g ((t.setTab i Lk).setTab i (addL (t.r.ev i) Lk [x])) := h1;rw [HNX.out] at h1';refine ⟨?_, h1', h2⟩;have : addN (t.r.ev i) [x] = 1 := (by simp [addN, hal.2]);show Ending.returned (Value.int .i64 ((addN (t.r.ev i) [x] : Nat) : Int)) = _;rw [this]; rfl)
    have HFR := zI (fun W (hW : Below wr.heap.size wr W) => Jmf A2 _ c2 B2 m2 d2 t.r i W (hRr.below hW) (by have := hTk.few; rw [Tv.setTab_len] at this; omega) hi);obtain ⟨r0, r1, r2, r3, r4, r5, r6⟩ := R;have hba := (Below.refl wr.heap.size wr).alloc (Nat.le_refl _) (.cells #[.string x.nm, .int .i64 x.st, .int .i64 x.ag.c, .int .i64 x.ag.hi, .int .u64 x.ag.lo, .int .i64 x.ag.mn, .int .i64 x.ag.mx] 169);obtain ⟨w1, hw1⟩ : ∃ w1, w1 = wr.alloc (.cells #[.string x.nm, .int .i64 x.st, .int .i64 x.ag.c, .int .i64 x.ag.hi, .int .u64 x.ag.lo, .int .i64 x.ag.mn, .int .i64 x.ag.mx] 169) := ⟨_, rfl⟩;have hbx := Jbu.new wr x;rw [<- hw1] at hba hbx;have HW1 := zI hw1;have HB1 := zI hba;have HBX := zI hbx;have HXX := zI hX;have HC4 := zI c4;have HPT := zI hptr;have HBP := zI hb';have HGE := zI hal.1;have HC := zI hC;clear hTk hX hRr hTab hFgm wand hba hbx hw1 hne hi' hsm c4 hptr hal hC;go_upto_region 7 with fail
    rw [<- HW1.out];have hdr := (Below.refl w1.heap.size w1).drew;have hb1D := HB1.out.trans (hdr.mono HB1.out.size);have HXD := zI (HXX.out.below hb1D);have HBXD := zI (HBX.out.keep (Jaa hdr none) (by simp));have HBD := zI hb1D;have dge : decide (t.r.from_ i <= x.st) = true := decide_eq_true HGE.out;clear hdr hb1D r0 r1 r2 r3 r4 r5 r6
    go_region_held3 (fun w' => w'.cell? ⟨wr.heap.size, 1, none⟩ = some (.int .i64 x.st) /\ w'.cell? ⟨g, 0, none⟩ = some (.int .i64 t.r.now) /\ w'.cell? ⟨g, 1, none⟩ = some (.string t.r.nm) /\ w'.cell? ⟨g, 2, none⟩ = some (.slice A2 t.tabs.length c2) /\ w'.cell? ⟨g, 3, none⟩ = some (.slice B2 m2 d2) /\ TLd wr w' x)
     (first
       | exact ⟨HBXD.out.c1, HXD.out.at_ 0 rfl, HXD.out.at_ 1 rfl, HXD.out.at_ 2 rfl, HXD.out.at_ 3 rfl, ⟨HBXD.out, HBD.out⟩⟩
       | (go_split_ands
          have hS := TLd.next (by assumption) hb2;exact ⟨hS.box.c1, (HXX.out.below hS.bel).at_ 0 rfl, (HXX.out.below hS.bel).at_ 1 rfl, (HXX.out.below hS.bel).at_ 2 rfl, (HXX.out.below hS.bel).at_ 3 rfl, hS⟩))
     ((go_at_call 100; go_split_ands; refine (HFR.out _ (TLd.bel (by assumption))).mono ?_; rintro e w2 ⟨rfl, hb2⟩))
    have hS : TLd wr w2 x := by go_split_ands; assumption
    have HS := zI hS;obtain ⟨x0, x1, x2, x3, x4, x5, x6⟩ := hS.box;have c4 := (hS.bel.cell (p := ⟨g, 4, none⟩) HXX.out.lt).trans HC4.out;have cp := (hS.bel.cell (p := ⟨b', off' + i, none⟩) HBP.out).trans HPT.out;clear hS;have hk9 : (k : Int) <= 1000000 := (by omega);have hi0 : (0 : Int) <= (i : Int) := (by omega);have hi1 : (i : Int) < (t.tabs.length : Int) := (by omega);have HBE := zI (HS.out.bel.drew);have hq1 : b' < w2.heap.size := Nat.lt_of_lt_of_le HBP.out HS.out.bel.size;have hq2 : g < w2.heap.size := Nat.lt_of_lt_of_le HXX.out.lt HS.out.bel.size;have hq3 : wr.heap.size < w2.heap.size := by have := World.block_lt_of_cell? _ _ x0; simpa using this
    go_upto_region 8 with fail
    go_region_with ((go_at_call 94; refine (HAD.out _ HBE.out).mono ?_; rintro e w5 ⟨rfl, hT5, hC5⟩))
    all_goals
     have HT5 := zI hT5;have HC5 := zI (HC.out.trans hC5 (fun _ x => .inl x));clear hT5 hC5;go_wp2_with fail
     go_roundw
     case rel => exact ⟨k + 1, by omega, by go_num, by go_num, HT5.out, HC5.out⟩
     case measure => simp [intOf]; omega
  · have hke : k = n := by omega
    subst hke;have HTL := zI (show l.take k = l from List.take_of_length_le (by rw [HLN.out]; exact Nat.le_refl _));rw [HTL.out] at hTk;have HT2 := zI hTk;have HC := zI hC;clear hTk hC;go_wp2_with fail
    go_ret;exact ⟨rfl, HT2.out, HC.out⟩
open Go.ChangeAt Go.ChangeShapes Go.Deep Go.WideShapes
theorem Jbz {z : Int} (h : -9223372036854775808 <= z /\ z <= 9223372036854775807) : (Lit.int .i64 z).wf = true := by
 have : IntKind.i64.min = -9223372036854775808 /\ IntKind.i64.max = 9223372036854775807 := by decide
 simp [Lit.wf, this.1, this.2, h.1, h.2]
structure Smp where
 nm : ByteArray
 tm : Int
 vl : Int
def Smp.cells (s : Smp) : List Value := [.string s.nm, .int .i64 s.tm, .int .i64 s.vl]
structure Smp.Ok (s : Smp) : Prop where
 nm : s.nm.size <= maxLen
 tm : -9223372036854775808 <= s.tm /\ s.tm <= 9223372036854775807
 vl : -9223372036854775808 <= s.vl /\ s.vl <= 9223372036854775807
theorem J23 (s : Smp) : s.cells.length = 3 := rfl
structure Smps (w : World) (A : Option Addr) (n : Nat) (l : List Smp) : Prop where
 sl : Sl w A (l.flatMap Smp.cells)
 len : l.length = n
 n_le : n <= maxLen
 ok : ∀ s ∈ l, s.Ok
structure J0b (w : World) (b off : Nat) (s : Smp) : Prop where
 c0 : w.cell? ⟨b, off, none⟩ = some (.string s.nm)
 c1 : w.cell? ⟨b, off + 1, none⟩ = some (.int .i64 s.tm)
 c2 : w.cell? ⟨b, off + 2, none⟩ = some (.int .i64 s.vl)
theorem Smps.get {w : World} {A : Option Addr} {n : Nat} {l : List Smp} (h : Smps w A n l) {j : Nat} (hj : j < l.length) : ∃ b off, A = some ⟨b, off, none⟩ /\ b < w.heap.size /\ J0b w b (off + j * 3) l[j] := by
 have hne : l.flatMap Smp.cells ≠ [] := by
  cases l with
  | nil => simp at hj
  | cons a r => simp [Smp.cells]
 obtain ⟨b, off, e, hb, hc⟩ := h.sl.at_ hne;have g := fun q hq => Jii J23 l j hj q hq;have c0 := hc (j * 3 + 0) _ (g 0 (by omega));have c1 := hc (j * 3 + 1) _ (g 1 (by omega));have c2 := hc (j * 3 + 2) _ (g 2 (by omega));rw [<- Nat.add_assoc] at c1 c2;exact ⟨b, off, e, hb, c0, c1, c2⟩
theorem Smps.below {w w' : World} {A : Option Addr} {n : Nat} {l : List Smp} (h : Smps w A n l) (hb : Below w.heap.size w w') : Smps w' A n l := ⟨h.sl.below hb, h.len, h.n_le, h.ok⟩
theorem Smps.chg {G : Nat -> Prop} {w w' : World} {A : Option Addr} {n : Nat} {l : List Smp} (h : Smps w A n l) (hc : Chg G w w') (hn : AIn (fun b => ¬ G b) A) : Smps w' A n l := ⟨h.sl.chg hc hn, h.len, h.n_le, h.ok⟩
end Go.Proofs.YtalkkhafcfhglaaGreatDoor
namespace Go.Proofs.YtalkkhafcfhglaaGreatDoor
open Go.RowKit
structure Rch.Gets (r : Rch) (s : Smp) : Prop where
 ok : s.Ok
 nm : Jak s.nm.toList = true
 tm : 0 <= s.tm /\ s.tm <= r.now
 from_ : r.from_ 0 <= s.tm
structure TkS (w w' : World) (r : Rch) (A : Option Addr) (n c : Nat) (B : Option Addr) (m d : Nat) (s : Smp) : Prop where
 rb : Bx w' w.heap.size 121 #[.int .i64 r.now, .string r.nm, .slice A n c, .slice B m d]
 sb : Bx w' (w.heap.size + 1) 58 #[.string s.nm, .int .i64 s.tm, .int .i64 s.vl]
 bel : Below w.heap.size w w'
theorem TkS.next {w w1 w' : World} {r : Rch} {A B : Option Addr} {n c m d : Nat} {s : Smp} (h : TkS w w1 r A n c B m d s) (hb : Below w1.heap.size w1 w') : TkS w w' r A n c B m d s := ⟨h.rb.below hb, h.sb.below hb, h.bel.trans (hb.mono h.bel.size)⟩
theorem TkS.cells {w w' : World} {r : Rch} {A B : Option Addr} {n c m d : Nat} {s : Smp} (h : TkS w w' r A n c B m d s) :
  w'.cell? ⟨w.heap.size, 0, none⟩ = some (.int .i64 r.now) /\ w'.cell? ⟨w.heap.size, 1, none⟩ = some (.string r.nm) /\ w'.cell? ⟨w.heap.size, 2, none⟩ = some (.slice A n c) /\ w'.cell? ⟨w.heap.size, 3, none⟩ = some (.slice B m d) /\ w'.cell? ⟨w.heap.size + 1, 0, none⟩ = some (.string s.nm) /\ w'.cell? ⟨w.heap.size + 1, 1, none⟩ = some (.int .i64 s.tm) :=
 ⟨h.rb.at_ 0 rfl, h.rb.at_ 1 rfl, h.rb.at_ 2 rfl, h.rb.at_ 3 rfl, h.sb.at_ 0 rfl, h.sb.at_ 1 rfl⟩
theorem J0c (A : Option Addr) (n c : Nat) (B : Option Addr) (m d : Nat) (r : Rch) (s : Smp) (w : World) (h : Jef w A n B m r) (hn : n <= 1000000) (h1 : 1 <= n) (hs : r.Gets s) :
  Calls Tryz.prog 92 #[rchV r.now r.nm A n c B m d, .agg #[.string s.nm, .int .i64 s.tm, .int .i64 s.vl]] w fun e w' => e = .returned (.int .i64 0) /\ Below w.heap.size w w' := by
 have HVA := zI (fun (W : World) (g : Nat) (hg : W.cell? ⟨g, 0, none⟩ = some (.string s.nm)) => Jb5 (some ⟨g, 0, none⟩) 1 1 [s.nm] W (by decide) rfl (by simpa using hs.ok.nm) (fun _ => ⟨g, 0, rfl, one_cell hg⟩));rw [show ([s.nm].all fun s => Jak s.toList) = true from by simp [hs.nm]] at HVA;obtain ⟨w1, hw1⟩ : ∃ w1, w1 = (w.alloc (.cells #[.int .i64 r.now, .string r.nm, .slice A n c, .slice B m d] 121)).alloc (.cells #[.string s.nm, .int .i64 s.tm, .int .i64 s.vl] 58) := ⟨_, rfl⟩;have hba := (Below.refl w.heap.size w).alloc (Nat.le_refl _) (.cells #[.int .i64 r.now, .string r.nm, .slice A n c, .slice B m d] 121)
 have HT1 := zI (show TkS w w1 r A n c B m d s from by
  rw [hw1];refine ⟨(Bx.new w _ _).alloc _, ?_, hba.alloc hba.size _⟩;have := Bx.new (w.alloc (.cells #[.int .i64 r.now, .string r.nm, .slice A n c, .slice B m d] 121)) 58 #[.string s.nm, .int .i64 s.tm, .int .i64 s.vl]
  rwa [show (w.alloc (.cells #[.int .i64 r.now, .string r.nm, .slice A n c, .slice B m d] 121)).heap.size = w.heap.size + 1 from by simp] at this)
 have HW1 := zI hw1;have HIS := zI (fun W => Jjd r.now r.nm A n c B m d 0 W);rw [show isB n 0 = true from decide_eq_true (by omega)] at HIS;have HFR := zI (fun W (hW : Below w.heap.size w W) => Jmf A n c B m d r 0 W (h.below hW) hn h1);have d1 : decide (s.tm < 0) = false := decide_eq_false (by have := hs.tm; omega);have d2 : decide (r.now < s.tm) = false := decide_eq_false (by have := hs.tm; omega);have d3 : decide (s.tm < r.from_ 0) = false := decide_eq_false (by have := hs.from_; omega);clear hw1 hba h hs;obtain ⟨a0, a1, a2, a3, b0, b1⟩ := HT1.out.cells;go_enter Tryz.func92, Tryz.ntmps92;go_upto_region 1 with fail
 rw [<- HW1.out];go_wp2_with fail
 refine (HVA.out _ _ (by simp [go_sem])).mono ?_;rintro e w2 ⟨rfl, hw⟩;have hT2 := HT1.out.next (show Below w1.heap.size w1 w2 from by rw [<- hw]; exact (Below.refl _ _).alloc (Nat.le_refl _) _);have HT2 := zI hT2;clear hw a0 a1 a2 a3 b0 b1;obtain ⟨a0, a1, a2, a3, b0, b1⟩ := hT2.cells;go_wp2_with fail
 have HTD := zI (hT2.next (Below.refl _ _).drew)
 go_region_held3 (fun w' => (w'.cell? ⟨w.heap.size, 0, none⟩ = some (.int .i64 r.now) /\ w'.cell? ⟨w.heap.size, 1, none⟩ = some (.string r.nm) /\ w'.cell? ⟨w.heap.size, 2, none⟩ = some (.slice A n c) /\ w'.cell? ⟨w.heap.size, 3, none⟩ = some (.slice B m d) /\ w'.cell? ⟨w.heap.size + 1, 0, none⟩ = some (.string s.nm) /\ w'.cell? ⟨w.heap.size + 1, 1, none⟩ = some (.int .i64 s.tm)) /\ TkS w w' r A n c B m d s)
  (first
    | exact ⟨HTD.out.cells, HTD.out⟩
    | (go_split_ands; exact ⟨(TkS.next (by assumption) hbq).cells, TkS.next (by assumption) hbq⟩)
    | (go_split_ands; exact ⟨(TkS.next (by assumption) hbp).cells, TkS.next (by assumption) hbp⟩))
  (first
    | (go_at_call 163; refine (HIS.out _).mono ?_; rintro e wq ⟨rfl, hbq⟩)
    | (go_at_call 100; go_split_ands; refine (HFR.out _ (TkS.bel (by assumption))).mono ?_; rintro e wp ⟨rfl, hbp⟩))
 have hT9 : TkS w wp r A n c B m d s := by go_split_ands; assumption
 have HT9 := zI hT9.bel;clear hT9;go_wp2_with fail
 go_ret;exact ⟨rfl, HT9.out⟩
end Go.Proofs.YtalkkhafcfhglaaGreatDoor
