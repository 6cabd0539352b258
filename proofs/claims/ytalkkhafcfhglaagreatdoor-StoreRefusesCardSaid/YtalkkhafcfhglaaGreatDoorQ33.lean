/-
  Several texts in one: SegG, Split, Want.
-/
import Derived.Laws.NewBlocks
import Derived.Test.YtalkkhafcfhglaaGreatDoorQ32
set_option maxRecDepth 100000
set_option maxHeartbeats 4000000
namespace Go.Proofs.YtalkkhafcfhglaaGreatDoor
open Go.RowKit
theorem Jep (id tier shard : Nat) (l : List Rc) : (sgL id tier shard l).length = sgN l.length := by simp [sgL]
theorem J5c {id tier shard : Nat} {l : List Rc} {p : Nat} (h : p < sgN l.length) : (sgL id tier shard l)[p]'(by rw [Jep]; exact h) = strOf (sgBk id tier shard p (sgN l.length) (sgPt l p)) := by simp [sgL]
theorem Jsk {l : List Rc} {p : Nat} : (sgPt l p).length = min 3 (l.length - 3 * p) := by simp [sgPt]
theorem Jsl {l : List Rc} {p : Nat} {r : Rc} (h : r ∈ sgPt l p) : r ∈ l := List.mem_of_mem_drop (List.mem_of_mem_take h)
theorem Jxx (l : List Rc) : ∀ k, (List.range k).flatMap (sgPt l) = l.take (3 * k)
 | 0 => by simp
 | k + 1 => by
   rw [List.range_succ, List.flatMap_append, Jxx l k];simp only [List.flatMap_cons, List.flatMap_nil, List.append_nil];unfold sgPt;rw [show 3 * (k + 1) = 3 * k + 3 from by omega, List.take_add]
def hdC (id tier shard N : Nat) (l : List Rc) (p : Nat) : List Value := [.int .u64 (id : Int), .int .i64 (tier : Int), .int .i64 (shard : Int), .int .i64 (p : Int), .int .i64 (N : Int), .int .i64 ((sgPt l p).length : Int)]
theorem J37 (id tier shard N : Nat) (l : List Rc) (p : Nat) : ∀ u ∈ hdC id tier shard N l p, u.oneCell' = true := by
 intro u hu;simp [hdC] at hu;rcases hu with rfl | rfl | rfl | rfl | rfl | rfl <;> rfl
def tkN (l : List Rc) (p : Nat) : Nat := (l.take (3 * p)).length
structure J38 (w : World) (b off id tier shard p N n : Nat) : Prop where
 c0 : w.cell? ⟨b, off, none⟩ = some (.int .u64 (id : Int))
 c1 : w.cell? ⟨b, off + 1, none⟩ = some (.int .i64 (tier : Int))
 c2 : w.cell? ⟨b, off + 2, none⟩ = some (.int .i64 (shard : Int))
 c3 : w.cell? ⟨b, off + 3, none⟩ = some (.int .i64 (p : Int))
 c4 : w.cell? ⟨b, off + 4, none⟩ = some (.int .i64 (N : Int))
 c5 : w.cell? ⟨b, off + 5, none⟩ = some (.int .i64 (n : Int))
theorem J5v {w : World} {A : Option Addr} {id tier shard N m : Nat} {l : List Rc} (h : Sl w A ((List.range m).flatMap (hdC id tier shard N l))) {p : Nat} (hp : p < m) :
  ∃ b off, A = some ⟨b, off, none⟩ /\ b < w.heap.size /\ J38 w b (off + p * 6) id tier shard p N (sgPt l p).length := by
 have hlen := Jfn (cs := hdC id tier shard N l) (k := 6) (fun _ => rfl) (List.range m);have hne : (List.range m).flatMap (hdC id tier shard N l) ≠ [] := fun e => by rw [e, List.length_range] at hlen; simp at hlen; omega
 obtain ⟨b, off, rfl, hb, hc⟩ := h.at_ hne;have g := fun q hq => Jii (cs := hdC id tier shard N l) (k := 6) (fun _ => rfl) (List.range m) p (by simpa using hp) q hq;simp only [List.getElem_range] at g;have c0 := hc (p * 6 + 0) _ (g 0 (by omega));have c1 := hc (p * 6 + 1) _ (g 1 (by omega));have c2 := hc (p * 6 + 2) _ (g 2 (by omega));have c3 := hc (p * 6 + 3) _ (g 3 (by omega));have c4 := hc (p * 6 + 4) _ (g 4 (by omega));have c5 := hc (p * 6 + 5) _ (g 5 (by omega));rw [<- Nat.add_assoc] at c0 c1 c2 c3 c4 c5;exact ⟨b, off, rfl, hb, ⟨c0, c1, c2, c3, c4, c5⟩⟩
theorem Jqs {w : World} {B : Nat} {e : TypeId} {k n c : Nat} {A : Option Addr} {xs : List Value} (h : w.ownsRow B e k (.slice A n c) n xs) : n <= c := by
 rcases h.2 with ⟨e1, e2⟩ | ⟨g, cap, cur, e1, _, _, hnc, _⟩
 · cases e1; omega
 · cases e1; exact hnc
theorem Rc.Fine.wf {r : Rc} (h : r.Fine) : (Lit.int .i64 r.st).wf = true := by
 have := h.st;have e1 : IntKind.i64.min = -9223372036854775808 /\ IntKind.i64.max = 9223372036854775807 := by decide
 simp [Lit.wf, e1.1, e1.2];omega
theorem Jxy {w : World} {A : Option Addr} {l : List Rc} (hs : Sl w A (l.flatMap Rc.cells)) (hf : ∀ r ∈ l, r.Fine) (hn : l.length <= 1000000) : Rcs w A l.length l :=
 ⟨hs, rfl, by unfold maxLen; omega, fun r hr => (hf r hr).ok.nm, fun r hr => (hf r hr).wf, fun r hr => (hf r hr).ok.ag.ok⟩
theorem J39 {id tier shard p N : Nat} {l : List Rc} (hf : ∀ r ∈ l, r.Fine) : (strOf (sgBk id tier shard p N l)).extract 48 (48 + 64 * l.length) = strOf (l.flatMap rcB) := by
 have := Jj2 (sgHd id tier shard p N l.length) (l.flatMap rcB) (zeros (208 - (l.flatMap rcB).length));rw [Jm8, Jeo (fun r hr => (hf r hr).len)] at this;rw [<- this];unfold sgBk;rw [Jeo (fun r hr => (hf r hr).len)]
theorem Jxz (id tier shard : Nat) (B : Option Addr) (m d : Nat) (l : List Rc) (w : World) (h0 : 1 <= id) (h1 : id < 18446744073709551616) (h2 : tier < 10) (h3 : shard < 8) (hf : ∀ r ∈ l, r.Fine) (ho : l.Pairwise Rc.lt) (hn : l.length <= 10000) (hne : l ≠ []) (hB : Strs w B m (sgL id tier shard l)) :
  Calls Tryz.prog 67 #[.int .u64 (id : Int), .int .i64 (tier : Int), .int .i64 (shard : Int), .slice B m d] w fun e w' => ∃ v, e = .returned (.tuple #[v, .int .i64 0]) /\ w'.ownsRow w.heap.size 169 7 v l.length (l.flatMap Rc.cells) /\ Below w.heap.size w w' := by
 obtain ⟨N, hN⟩ : ∃ N, N = sgN l.length := ⟨_, rfl⟩;have hm : m = N := by rw [<- hB.len, Jep, hN]
 have hlp : 1 <= l.length := List.length_pos_iff.2 hne;have hN1 : 1 <= N := by rw [hN]; unfold sgN; omega
 have hN3 : 3 * N < l.length + 3 := by rw [hN]; unfold sgN; omega
 have hN4 : N <= 4000 := by omega
 subst hm;have HFT := zI (show ∀ p, p < m -> J1f id tier shard p m (sgPt l p) from fun p hp => ⟨h0, h1, h2, h3, hp, by omega, by rw [Jsk]; omega, fun r hr => hf r (Jsl hr)⟩);have HST := zI (show ∀ p (K : p < (sgL id tier shard l).length), (sgL id tier shard l)[p] = strOf (sgBk id tier shard p m (sgPt l p)) from fun p K => by rw [J5c (by rw [Jep] at K; exact K), <- hN]);have HLL := zI (show (sgL id tier shard l).length = m from by rw [Jep, hN]);have HB0 := zI hB;have HH := zI (show 1 <= id /\ id < 18446744073709551616 /\ tier < 10 /\ shard < 8 from ⟨h0, h1, h2, h3⟩);have HF := zI hf;have HOR := zI ho;have HNN := zI hN;clear h0 h1 h2 h3 hf ho hne hB hN;go_enter Tryz.func67, Tryz.ntmps67;go_wp2_with fail
 go_loopw [11, 26] (fun v i wr => ∃ k : Nat, k <= m /\ i = .int .i64 (k : Int) /\ wr.ownsRow w.heap.size 242 6 v k ((List.range k).flatMap (hdC id tier shard m l)) /\ Below w.heap.size w wr) (fun _ i _ => m - (intOf i).toNat)
 case atStart => exact ⟨0, Nat.zero_le _, rfl, World.ownsRow_nil _ _ _ _, Below.refl _ _⟩
 case round =>
  obtain ⟨k, hk, rfl, hown, hb⟩ := hrel;by_cases hlt : k < m
  · have K : k < (sgL id tier shard l).length := by rw [HLL.out]; exact hlt
    obtain ⟨b, off, rfl, hbl, hcell⟩ := (HB0.out.below hb).get K;rw [HST.out k K] at hcell;have HR := zI (Juc id tier shard k m (sgPt l k) wr (HFT.out k hlt));obtain ⟨n, hn1⟩ : ∃ n, n = (sgPt l k).length := ⟨_, rfl⟩
    have HSU := zI (show (List.range k).flatMap (hdC id tier shard m l) ++ [.int .u64 (id : Int), .int .i64 (tier : Int), .int .i64 (shard : Int), .int .i64 (k : Int), .int .i64 (m : Int), .int .i64 (n : Int)] = (List.range (k + 1)).flatMap (hdC id tier shard m l) from by
     rw [List.range_succ, List.flatMap_append, hn1]; simp [hdC])
    have HON := zI (show ∀ u ∈ ([.int .u64 (id : Int), .int .i64 (tier : Int), .int .i64 (shard : Int), .int .i64 (k : Int), .int .i64 (m : Int), .int .i64 (n : Int)] : List Value), u.oneCell' = true from by
     have := J37 id tier shard m l k; unfold hdC at this; rw [<- hn1] at this; exact this)
    have HK := zI (show k + 1 <= 1000000 from by omega);rw [<- hn1] at HR;generalize strOf (sgBk id tier shard k m (sgPt l k)) = S at *;have HO := zI hown;have HB := zI hb;clear hown hb hn1;go_wp2_with fail
    refine HR.out.mono ?_;rintro e w2 ⟨rfl, hb2⟩;have hb3 := hb2.alloc hb2.size (.cells #[.int .u64 (id : Int), .int .i64 (tier : Int), .int .i64 (shard : Int), .int .i64 (k : Int), .int .i64 (m : Int), .int .i64 (n : Int)] 242);have hb4 := hb3.alloc hb3.size (.cells #[.int .u64 (id : Int), .int .i64 (tier : Int), .int .i64 (shard : Int), .int .i64 (k : Int), .int .i64 (m : Int), .int .i64 (n : Int)] 242);have HSL := zI (Sl.new (w2.alloc (.cells #[.int .u64 (id : Int), .int .i64 (tier : Int), .int .i64 (shard : Int), .int .i64 (k : Int), .int .i64 (m : Int), .int .i64 (n : Int)] 242)) 242 (w2.heap.size + 1) [.int .u64 (id : Int), .int .i64 (tier : Int), .int .i64 (shard : Int), .int .i64 (k : Int), .int .i64 (m : Int), .int .i64 (n : Int)] #[.int .u64 (id : Int), .int .i64 (tier : Int), .int .i64 (shard : Int), .int .i64 (k : Int), .int .i64 (m : Int), .int .i64 (n : Int)] (by simp) rfl);have HO4 := zI (Jaj HO.out hb4);have HB4 := zI (HB.out.trans (hb4.mono HB.out.size));clear hb2 hb3 hb4;go_wp2_with (at_builtin; refine J22 rfl _ _ rfl HO4.out rfl (some ⟨w2.heap.size + 1, 0, none⟩) 1 1 _ rfl rfl HSL.out HON.out HK.out HB4.out.size ?_; intro A' c' w5 ho5 hg5)
    have hb5 := Jb8 HO4.out hg5 HB4.out HB4.out.size;rw [HSU.out] at ho5;go_roundw
    case rel => exact ⟨k + 1, by omega, by go_num, ho5, hb5⟩
    case measure => simp [intOf]; omega
  · have hke : k = m := by omega
    subst hke;obtain ⟨wo, hwo⟩ : ∃ wo : World, wo = wr := ⟨_, rfl⟩;rw [<- hwo] at hown hb ⊢;obtain ⟨Ah, ch, rfl, hsl⟩ := Jaq hown;have HH0 := zI hown;have HB1 := zI hb;clear hwo hown hb hsl;go_wp2_with fail
    go_loopw [10, 45] (fun v i wr => ∃ p : Nat, p <= k /\ i = .int .i64 (p : Int) /\ wr.ownsRow wo.heap.size 169 7 v (tkN l p) ((l.take (3 * p)).flatMap Rc.cells) /\ Below wo.heap.size wo wr) (fun _ i _ => k - (intOf i).toNat)
    case atStart => exact ⟨0, Nat.zero_le _, rfl, World.ownsRow_nil _ _ _ _, Below.refl _ _⟩
    case round =>
     obtain ⟨p, hp, rfl, hown, hb⟩ := hrel;by_cases hlt : p < k
     · have K : p < (sgL id tier shard l).length := by rw [HLL.out]; exact hlt
       have hbw := HB1.out.trans (hb.mono HB1.out.size);obtain ⟨b, off, rfl, hbl, hcell⟩ := (HB0.out.below hbw).get K;rw [HST.out p K] at hcell;obtain ⟨_, _, e1, hsl⟩ := Jaq (Jaj HH0.out hb);cases e1
       obtain ⟨bh, oh, rfl, hbh, HC⟩ := J5v hsl hlt;have HFP := HFT.out p hlt;have hx := J39 (id := id) (tier := tier) (shard := shard) (p := p) (N := k) HFP.fine;have hn3 := HFP.len;have HSZ := zI (show (strOf (sgBk id tier shard p k (sgPt l p))).size = 256 from by rw [Jac, Jj3 HFP.fine hn3.2]);have HGT := zI (fun W => Jxw (sgPt l p) W HFP.fine (by omega))
       have HTK := zI (show (l.take (3 * p)).flatMap Rc.cells ++ (sgPt l p).flatMap Rc.cells = (l.take (3 * (p + 1))).flatMap Rc.cells from by
        rw [<- List.flatMap_append, <- Jxx, <- Jxx, List.range_succ, List.flatMap_append]; simp)
       have HTL := zI (show tkN l p + (sgPt l p).length = tkN l (p + 1) from by
        unfold tkN;rw [<- List.length_append, <- Jxx, <- Jxx, List.range_succ, List.flatMap_append]; simp)
       have HON := zI (show ∀ u ∈ (sgPt l p).flatMap Rc.cells, u.oneCell' = true from fun u hu => by
        obtain ⟨r, _, hr⟩ := List.mem_flatMap.1 hu; exact J2d r u hr)
       have HFL := zI (Jm9 (sgPt l p));have HK := zI (show tkN l p + (sgPt l p).length <= 1000000 from by unfold tkN; rw [List.length_take]; omega);obtain ⟨n, hn1⟩ : ∃ n, n = (sgPt l p).length := ⟨_, rfl⟩;rw [<- hn1] at HC hx hn3 HGT HTL HFL HK;generalize strOf ((sgPt l p).flatMap rcB) = RB at *;have hsz : (strOf (sgBk id tier shard p k (sgPt l p))).size = 256 := HSZ.out;generalize strOf (sgBk id tier shard p k (sgPt l p)) = S at *;obtain ⟨s0, s1, s2, s3, s4, s5⟩ := HC;have HO := zI hown;have HB := zI hb;have HXX := zI hx;clear hown hb hbw hsl hn1 HFP hx HSZ;obtain ⟨w1, hw1⟩ : ∃ w1, w1 = wr.alloc (.cells #[.int .u64 (id : Int), .int .i64 (tier : Int), .int .i64 (shard : Int), .int .i64 (p : Int), .int .i64 (k : Int), .int .i64 (n : Int)] 242) := ⟨_, rfl⟩;have hba := (Below.refl wr.heap.size wr).alloc (Nat.le_refl _) (.cells #[.int .u64 (id : Int), .int .i64 (tier : Int), .int .i64 (shard : Int), .int .i64 (p : Int), .int .i64 (k : Int), .int .i64 (n : Int)] 242);have hbx := Bx.new wr 242 #[.int .u64 (id : Int), .int .i64 (tier : Int), .int .i64 (shard : Int), .int .i64 (p : Int), .int .i64 (k : Int), .int .i64 (n : Int)];rw [<- hw1] at hba hbx;have HW1 := zI hw1;have t0 := hbx.at_ 0 rfl;have t1 := hbx.at_ 1 rfl;have t2 := hbx.at_ 2 rfl;have t3 := hbx.at_ 3 rfl;have t4 := hbx.at_ 4 rfl;have t5 := hbx.at_ 5 rfl;have hc1 : w1.cell? ⟨b, off + p, none⟩ = some (.string S) := (hba.cell (p := ⟨b, off + p, none⟩) hbl).trans hcell;clear hw1;go_upto_region 14 with fail
       rw [<- HW1.out];clear s0 s1 s2 s3 s4 s5 hcell;go_upto_region 16 with fail
       have hxx : S.extract 48 (48 + n * 64) = RB := by rw [Nat.mul_comm n 64]; exact HXX.out
       have hp0 : (0 : Int) <= (p : Int) := (by omega);have hp1 : (p : Int) < (k : Int) := (by omega);have hq0 : (48 : Int) <= 48 + (n : Int) * 64 := (by omega);have hq1 : (48 : Int) + (n : Int) * 64 <= 256 := (by omega);have hw2 : IntKind.i64.wrap ((n : Int) * 64) = (n : Int) * 64 := IntWalk.i64_in _ (by omega);have hw3 : IntKind.i64.wrap (48 + (n : Int) * 64) = 48 + (n : Int) * 64 := IntWalk.i64_in _ (by omega);have hw4 : ((48 : Int) + (n : Int) * 64).toNat = 48 + n * 64 := (by omega);have hbD := (Below.refl w1.heap.size w1).drew;have hcD : w1.drew.cell? ⟨b, off + p, none⟩ = some (.string S) := hc1;have htD : w1.drew.cell? ⟨wr.heap.size, 5, none⟩ = some (.int .i64 (n : Int)) := t5
       go_region_held3 (fun w' => w'.cell? ⟨b, off + p, none⟩ = some (.string S) /\ w'.cell? ⟨wr.heap.size, 5, none⟩ = some (.int .i64 (n : Int)) /\ Below w1.heap.size w1 w')
        (first
          | exact ⟨hcD, htD, hbD⟩
          | (go_split_ands; exact ⟨(hb2.cell (p := ⟨b, off + p, none⟩) (by have := World.block_lt_of_cell? _ _ (by assumption : World.cell? _ ⟨b, off + p, none⟩ = some (.string S)); simpa using this)).trans (by assumption), (hb2.cell (p := ⟨wr.heap.size, 5, none⟩) (by have := World.block_lt_of_cell? _ _ (by assumption : World.cell? _ ⟨wr.heap.size, 5, none⟩ = some (.int .i64 (n : Int))); simpa using this)).trans (by assumption), Below.trans (by assumption) (Below.mono hb2 (Below.size (by assumption)))⟩))
        ((go_at_call 135; refine (HGT.out _).mono ?_; rintro e w2 ⟨v2, rfl, ho2, hb2⟩))
       obtain ⟨A2, c2, rfl, hs2⟩ := Jaq ho2;have hS : Below w1.heap.size w1 w2 := by go_split_ands; assumption
       have hb3 := hba.trans (hS.mono hba.size);have HO2 := zI (Jaj HO.out hb3);have HB2 := zI (HB.out.trans (hb3.mono HB.out.size));have HS2 := zI hs2;clear hw2 hw3 hw4 hxx hp0 hp1 hq0 hq1 hbD hcD htD hS hb3 hs2 ho2;go_wp2_with (at_builtin; refine J16 rfl _ _ rfl HO2.out rfl A2 n c2 _ rfl HFL.out HS2.out HON.out HK.out HB2.out.size ?_; intro A' c' w5 ho5 hg5)
       have hb5 := Jb8 HO2.out hg5 HB2.out HB2.out.size;go_roundw
       case rel => exact ⟨p + 1, by omega, by go_num, by rw [<- HTL.out, <- HTK.out]; exact ho5, hb5⟩
       case measure => simp [intOf]; omega
     · have hpe : p = k := by omega
       have HAL := zI (show l.take (3 * p) = l from List.take_of_length_le (by have := HNN.out; unfold sgN at this; omega));rw [HAL.out, show tkN l p = l.length from by unfold tkN; rw [HAL.out]] at hown;obtain ⟨Ao, co, rfl, hso⟩ := Jaq hown;have hw5 := HB1.out.trans (hb.mono HB1.out.size);have HPU := zI (Jo9 id tier shard Ao l.length co l wr HH.out.1 HH.out.2.1 HH.out.2.2.1 HH.out.2.2.2 (Jxy hso HF.out (by omega)) HF.out HOR.out hn (Jqs hown));have HOW := zI hown;have HBW := zI hb;have HBB := zI (HB0.out.below hw5);clear hown hb hso hw5 hpe;go_wp2_with fail
       refine HPU.out.mono ?_;rintro e w6 ⟨v6, rfl, ho6, hb6⟩;rw [<- HNN.out] at ho6;obtain ⟨A6, c6, rfl, hs6⟩ := Jaq ho6;have HS6 := zI hs6;have HOZ := zI (Jaj HOW.out hb6);have HBZ := zI (HB1.out.trans ((HBW.out.trans (hb6.mono HBW.out.size)).mono HB1.out.size));have HBY := zI (HBB.out.below hb6);have d1 : ((k : Int) == 0) = false := by rw [beq_eq_false_iff_ne]; omega
       clear ho6 hb6 hs6;go_wp2_with fail
       go_loop [101] (fun i => ∃ q : Nat, q <= k /\ i = .int .i64 (q : Int)) (fun i => k - (intOf i).toNat)
       case atStart => exact ⟨0, Nat.zero_le _, rfl⟩
       case round =>
        obtain ⟨q, hq, rfl⟩ := hrel;by_cases hlt : q < k
        · have K : q < (sgL id tier shard l).length := by rw [HLL.out]; exact hlt
          obtain ⟨b, off, rfl, _, hcell⟩ := HBY.out.get K;obtain ⟨b', off', rfl, _, hcell'⟩ := HS6.out.get (j := q) (by simpa using K);simp only [List.getElem_map] at hcell';generalize (sgL id tier shard l)[q]'K = S at *;go_wp2_with fail
          go_round
          case rel => exact ⟨q + 1, by omega, by go_num⟩
          case measure => simp [intOf]; omega
        · go_wp2_with fail
          go_ret2;exact ⟨_, rfl, Jdp HOZ.out HB1.out.size, HBZ.out⟩
def shO (n : Nat) (r : Rc) : Nat := (Jco r.nm.toList (n : Int)).toNat
def Ja0 (n : Nat) (l : List Rc) (k : Nat) : List Rc := l.filter fun r => decide (shO n r = k)
theorem Jll {n : Nat} (h : 1 <= n) (r : Rc) : Jco r.nm.toList (n : Int) = (shO n r : Int) /\ shO n r < n := by
 have hb := Jpt r.nm.toList;unfold shO Jco;rw [if_neg (by omega)];have h1 := Int.emod_nonneg (hash r.nm.toList) (show (n : Int) ≠ 0 by omega);have h2 := Int.emod_lt_of_pos (hash r.nm.toList) (show (0 : Int) < n by omega);omega
theorem Jlm (n : Nat) (l : List Rc) (r : Rc) (k : Nat) : Ja0 n (l ++ [r]) k = if shO n r = k then Ja0 n l k ++ [r] else Ja0 n l k := by
 unfold Ja0;rw [List.filter_append];by_cases h : shO n r = k
 · rw [if_pos h]; simp [h]
 · rw [if_neg h]; simp [h]
theorem Jj4 (n : Nat) (l : List Rc) (k : Nat) : (Ja0 n l k).length <= l.length := List.length_filter_le _ _
theorem Jpa (r : Rc) (n : Nat) (w : World) (hn : 1 <= n) (hs : r.nm.size <= maxLen) :
  Calls Tryz.prog 138 #[r.val, .int .i64 (n : Int)] w fun e w' => e = .returned (.int .i64 (shO n r : Int)) /\ Below w.heap.size w w' := by
 have HSH := zI (fun W => Jnn r.nm (n : Int) W hs);rw [(Jll hn r).1] at HSH;have hb := (Below.refl w.heap.size w).alloc (Nat.le_refl _) (.cells #[.string r.nm, .int .i64 r.st, .int .i64 r.ag.c, .int .i64 r.ag.hi, .int .u64 r.ag.lo, .int .i64 r.ag.mn, .int .i64 r.ag.mx] 169);have HB := zI hb;clear hb;go_enter Tryz.func138, Tryz.ntmps138;go_wp2_with fail
 refine (HSH.out _).mono ?_;rintro e w1 ⟨rfl, hw⟩;subst hw;go_wp2_with fail
 go_ret;exact ⟨rfl, HB.out⟩
structure SplW (w wr : World) (gO n : Nat) (cell : Nat -> Value) (ls : Nat -> List Rc) : Prop where
 box : Bx wr gO 140 ((List.range n).map cell).toArray
 row : ∀ k, k < n -> wr.ownsRow w.heap.size 169 7 (cell k) (ls k).length ((ls k).flatMap Rc.cells)
 apart : ∀ i j, i < n -> j < n -> i ≠ j -> (cell i).ownBlock = none \/ (cell i).ownBlock ≠ (cell j).ownBlock
 bel : Below w.heap.size w wr
 low : w.heap.size <= gO
section
variable {w wr w1 w' : World} {gO n k : Nat} {cell : Nat -> Value} {ls : Nat -> List Rc}
theorem SplW.below (h : SplW w wr gO n cell ls) (hb : Below wr.heap.size wr w') : SplW w w' gO n cell ls := ⟨h.box.below hb, fun k hk => Jaj (h.row k hk) hb, h.apart, h.bel.trans (hb.mono h.bel.size), h.low⟩
theorem SplW.at_ (h : SplW w wr gO n cell ls) (hk : k < n) : wr.cell? ⟨gO, k, none⟩ = some (cell k) := h.box.at_ k (by simp [hk])
theorem SplW.put (h : SplW w wr gO n cell ls) (hk : k < n) (r : Rc) {v : Value} (hb : Below wr.heap.size wr w1) (hg : w1.grownBy w' (cell k).ownBlock) (ho : w'.ownsRow w.heap.size 169 7 v ((ls k).length + 1) ((ls k).flatMap Rc.cells ++ r.cells)) (hat : v.ownBlock = (cell k).ownBlock \/ ∀ b, v.ownBlock = some b -> w1.heap.size <= b) :
  SplW w (w'.setCell ⟨gO, k, none⟩ v) gO n (fun i => if i = k then v else cell i) (fun i => if i = k then ls i ++ [r] else ls i) := by
 have h1 := h.below hb;have hx := h1.box.grown hg (h1.box.not_row (h1.row k hk) (by decide));have hs := Jai w' gO k v;have key : ∀ {u : Value} {m : Nat} {xs : List Value}, w'.ownsRow w.heap.size 169 7 u m xs -> (w'.setCell ⟨gO, k, none⟩ v).ownsRow w.heap.size 169 7 u m xs := fun hu => hu.kept hs (.inr fun e => (hx.not_row hu (by decide)) e.symm);refine ⟨?_, fun i hi => ?_, fun i j hi hj hij => ?_, ?_, h.low⟩
 · have := hx.set k v
   rw [show (((List.range n).map cell).toArray.setIfInBounds k v) = ((List.range n).map fun i => if i = k then v else cell i).toArray from by
    apply Array.ext';rw [Array.toList_setIfInBounds];apply List.ext_getElem
    · simp
    · intro i h1 h2
      simp only [List.getElem_set, List.getElem_map, List.getElem_range];by_cases e : k = i
      · subst e; simp
      · rw [if_neg e, if_neg (fun e2 => e e2.symm)]] at this
   exact this
 · by_cases e : i = k
   · subst e
     simp only [if_true];rw [List.length_append, List.flatMap_append]
     simpa using key ho
   · simp only [if_neg e]
     refine key ((h1.row i hi).kept hg ?_);exact h.apart i k hi hk e
 · have far : ∀ i, i < n -> i ≠ k -> (cell i).ownBlock = none \/ (cell i).ownBlock ≠ v.ownBlock := fun i hi hik => by
    rcases hat with e | e
    · rw [e]; exact h.apart i k hi hk hik
    · cases hc : (cell i).ownBlock with
      | none => exact .inl rfl
      | some b =>
        refine .inr fun e2 => ?_;have h3 := e b e2.symm;have h4 := ((h1.row i hi).lt b hc).2;omega
   by_cases ei : i = k
   · subst ei
     have ej : j ≠ i := fun e => hij e.symm;simp only [if_true, if_neg ej];rcases far j hj ej with e | e
     · cases hv : v.ownBlock with
       | none => exact .inl rfl
       | some b => exact .inr (by rw [e]; simp)
     · exact .inr (fun e2 => e e2.symm)
   · by_cases ej : j = k
     · subst ej
       simp only [if_true, if_neg ei];exact far i hi ei
     · simp only [if_neg ei, if_neg ej]
       exact h.apart i j hi hj hij
 · have b1 := Jb8 (h1.row k hk) hg h1.bel h1.bel.size
   exact b1.setCell h.low v
end
theorem Jx0 : (Tryz.prog.info? 140).map (fun i => (i.zero, i.size, i.bytes)) = some (some (.slice none 0 0), 1, 24) := by kernel_rfl
theorem Jud (n : Nat) (h : n <= 1000) (W : World) : (Instr.makeSlice 259 (.int .i64 (n : Int)) (.int .i64 (n : Int))).run Tryz.prog W = .ok (.slice (some ⟨W.heap.size, 0, none⟩) n n) (W.alloc (.cells ((List.range n).map fun _ => Value.slice none 0 0).toArray 140)) := by
 obtain ⟨i0, hi, hz0, hz1, hz2⟩ := info_parts Jx0;rw [run_make W 259 140 i0 (.slice none 0 0) Tryz.underlying259 hi hz0 .i64 .i64 n n (by omega) (by omega) (by rw [hz2]; omega) (by omega)]
 have e : madeCells (Value.slice none 0 0).cells ((n : Int).toNat * i0.size) = ((List.range n).map fun _ => Value.slice none 0 0).toArray := by
  rw [hz1];apply Array.ext';rw [show (Value.slice none 0 0).cells = #[.slice none 0 0] from rfl, toList_madeCells_one];apply List.ext_getElem <;> simp
 rw [e]; rfl
theorem J4a {ops : Array Oper} {o : Oper} {a : Act} {K : Act -> World -> Prop} {Q : Exit -> Act -> World -> Prop} {E : Prop} {w : World} {base : Nat} {v : Value} {n : Nat} {xs : List Value} (hgd : o.guard = none) (s x : Operand)
  (ho : o.op = .call { callee := .builtin .append, args := #[s, x], argTypes := #[140, 140] }) (h : w.ownsRow base 169 7 v n xs) (hs : a.eval s = v) (A : Option Addr) (m c : Nat) (news : List Value) (hx : a.eval x = .slice A m c)
  (hl : news.length = m * 7) (hsl : Sl w A news) (h1 : ∀ u ∈ news, u.oneCell' = true) (hn : n + m <= 1000000) (hb : base <= w.heap.size)
  (hK : ∀ A' c' w', w'.ownsRow base 169 7 (.slice A' (n + m) c') (n + m) (xs ++ news) -> w.grownBy w' v.ownBlock -> ((Value.slice A' (n + m) c').ownBlock = v.ownBlock \/ ∀ b, (Value.slice A' (n + m) c').ownBlock = some b -> w.heap.size <= b) -> K (a.put o.dst (.slice A' (n + m) c')) w') :
  if Region.wanted o (yielded ops a.tmps) = true then Oper.wp Tryz.prog o a w K Q else E := by
 obtain ⟨i0, hi, hz0, hz1, hz2⟩ := info_parts Jp7;refine Jbw (P := Tryz.prog) w hgd s x 140 ho base 169 i0 _ 7 64 Tryz.underlying140 hi hz0 hz1 hz2 rfl (by decide) v n xs hs h A m c news hx hl hsl h1 (by unfold maxLen; omega) (by omega) hb ?_;intro v' w' h2 h3 h4;obtain ⟨A', c', rfl, _⟩ := Jaq h2;exact hK A' c' w' h2 h3 (h4.imp (fun h => h) fun h b e => by rw [h] at e; cases e; exact Nat.le_refl _)
theorem J1g (A : Option Addr) (m c n : Nat) (l : List Rc) (w : World) (hl : Rcs w A m l) (hn : 1 <= n /\ n <= 8) (hm : m <= 900000) :
  Calls Tryz.prog 153 #[.slice A m c, .int .i64 (n : Int)] w fun e w' => ∃ gO cell, e = .returned (.slice (some ⟨gO, 0, none⟩) n n) /\ SplW w w' gO n cell (Ja0 n l) := by
 have hmk := Jud n (by omega);have hmx : max (n : Int) 1 = (n : Int) := by omega
 have HL := zI hl;have HLN := zI hl.len;have HNM := zI hl.nm;have hba := (Below.refl w.heap.size w).alloc (Nat.le_refl _) (.cells ((List.range n).map fun _ => Value.slice none 0 0).toArray 140)
 have HS0 := zI (show SplW w (w.alloc (.cells ((List.range n).map fun _ => Value.slice none 0 0).toArray 140)) w.heap.size n (fun _ => .slice none 0 0) (Ja0 n []) from
  ⟨Bx.new w _ _, fun k _ => World.ownsRow_nil _ _ _ _, fun i j _ _ _ => .inl rfl, hba, Nat.le_refl _⟩)
 clear hba hl;go_enter Tryz.func153, Tryz.ntmps153;go_wp2_with fail
 obtain ⟨w1, hw1⟩ : ∃ w1, w1 = w.alloc (.cells ((List.range n).map fun _ => Value.slice none 0 0).toArray 140) := ⟨_, rfl⟩;obtain ⟨gO, hgO⟩ : ∃ gO, gO = w.heap.size := ⟨_, rfl⟩;rw [<- hw1, <- hgO] at HS0;rw [<- hw1, <- hgO];clear hw1 hgO;go_loopw [14] (fun j wr => ∃ (q : Nat) (cell : Nat -> Value), q <= m /\ j = .int .i64 (q : Int) /\ SplW w wr gO n cell (Ja0 n (l.take q))) (fun j _ => m - (intOf j).toNat)
 case atStart => exact ⟨0, _, Nat.zero_le _, rfl, HS0.out⟩
 case round =>
  obtain ⟨q, cell, hq, rfl, hS⟩ := hrel;by_cases hlt : q < m
  · have K : q < l.length := by rw [HLN.out]; exact hlt
    obtain ⟨b, off, rfl, hbl, r0, r1, r2, r3, r4, r5, r6⟩ := (HL.out.below hS.bel).get K;have HTK := zI (show l.take (q + 1) = l.take q ++ [l[q]] from List.take_succ_eq_append_getElem K);have HSZ := zI (HNM.out _ (List.getElem_mem K));have HQL := zI (fun k => Nat.le_trans (Jj4 n (l.take q) k) (show (l.take q).length <= 900000 from by rw [List.length_take]; omega));generalize l[q]'K = x at *;have HPS := zI (fun k => Jlm n (l.take q) x k);rw [<- HTK.out] at HPS;have hbx := (Below.refl wr.heap.size wr).alloc (Nat.le_refl _) (.cells #[.string x.nm, .int .i64 x.st, .int .i64 x.ag.c, .int .i64 x.ag.hi, .int .u64 x.ag.lo, .int .i64 x.ag.mn, .int .i64 x.ag.mx] 169);have hxx := Bx.new wr 169 #[.string x.nm, .int .i64 x.st, .int .i64 x.ag.c, .int .i64 x.ag.hi, .int .u64 x.ag.lo, .int .i64 x.ag.mn, .int .i64 x.ag.mx];obtain ⟨gb, hgb⟩ : ∃ gb, gb = wr.heap.size := ⟨_, rfl⟩;obtain ⟨w5, hw5⟩ : ∃ w5, w5 = wr.alloc (.cells #[.string x.nm, .int .i64 x.st, .int .i64 x.ag.c, .int .i64 x.ag.hi, .int .u64 x.ag.lo, .int .i64 x.ag.mn, .int .i64 x.ag.mx] 169) := ⟨_, rfl⟩;rw [<- hw5] at hbx hxx;rw [<- hgb] at hxx;have HSH := zI (Jpa x n w5 hn.1 HSZ.out);have HS5 := zI (hS.below hbx);have HX5 := zI hxx;have HGB := zI hgb;have HW5 := zI hw5;have HKK := zI (Jll hn.1 x).2;clear hS hbx hxx hgb hw5;go_upto_region 5 with fail
    rw [<- HW5.out, <- HGB.out];clear r0 r1 r2 r3 r4 r5 r6;have t0 := HX5.out.at_ 0 rfl;have t1 := HX5.out.at_ 1 rfl;have t2 := HX5.out.at_ 2 rfl;have t3 := HX5.out.at_ 3 rfl;have t4 := HX5.out.at_ 4 rfl;have t5 := HX5.out.at_ 5 rfl;have t6 := HX5.out.at_ 6 rfl;go_wp2_with fail
    refine HSH.out.mono ?_;rintro e w6 ⟨rfl, hb6⟩;obtain ⟨k, hk⟩ : ∃ k, k = shO n x := ⟨_, rfl⟩;rw [<- hk];have HS6 := zI (HS5.out.below hb6);have HX6 := zI (HX5.out.below hb6);have hkn : k < n := by rw [hk]; exact HKK.out
    have HK := zI hk;clear hb6 hk t0 t1 t2 t3 t4 t5 t6;go_upto_region 6 with fail
    have hdr := (Below.refl w6.heap.size w6).drew;have hal := ((Below.refl w6.heap.size w6).alloc (Nat.le_refl _) (.cells #[.string x.nm, .int .i64 x.st, .int .i64 x.ag.c, .int .i64 x.ag.hi, .int .u64 x.ag.lo, .int .i64 x.ag.mn, .int .i64 x.ag.mx] 169)).drew;have HSA := zI (HS6.out.below hal);have HXA := HX6.out.below hal;have HXD := HX6.out.below hdr;have HHA := zI hal;have u0 := HXD.at_ 0 rfl;have u1 := HXD.at_ 1 rfl;have u2 := HXD.at_ 2 rfl;have u3 := HXD.at_ 3 rfl;have u4 := HXD.at_ 4 rfl;have u5 := HXD.at_ 5 rfl;have u6 := HXD.at_ 6 rfl;have ck := (HS6.out.below hdr).at_ hkn;have ckA := HSA.out.at_ hkn;have HSL := zI ((Sl.new w6 169 w6.heap.size [.string x.nm, .int .i64 x.st, .int .i64 x.ag.c, .int .i64 x.ag.hi, .int .u64 x.ag.lo, .int .i64 x.ag.mn, .int .i64 x.ag.mx] #[.string x.nm, .int .i64 x.st, .int .i64 x.ag.c, .int .i64 x.ag.hi, .int .u64 x.ag.lo, .int .i64 x.ag.mn, .int .i64 x.ag.mx] rfl rfl).drew);have HON := zI (show ∀ u ∈ ([.string x.nm, .int .i64 x.st, .int .i64 x.ag.c, .int .i64 x.ag.hi, .int .u64 x.ag.lo, .int .i64 x.ag.mn, .int .i64 x.ag.mx] : List Value), u.oneCell' = true from by intro u hu; simp at hu; rcases hu with rfl | rfl | rfl | rfl | rfl | rfl | rfl <;> rfl)
    have HLE := zI (show (Ja0 n (l.take q) k).length + 1 <= 1000000 from by have := HQL.out k; omega);have HBS := zI (show w.heap.size <= (w6.alloc (.cells #[.string x.nm, .int .i64 x.st, .int .i64 x.ag.c, .int .i64 x.ag.hi, .int .u64 x.ag.lo, .int .i64 x.ag.mn, .int .i64 x.ag.mx] 169)).drew.heap.size from HSA.out.bel.size);clear hdr hal HXA HXD
    go_region_law (first
     | (refine J4a (by rfl) _ _ (by rfl) (HSA.out.row k hkn) (by rfl) (some ⟨w6.heap.size, 0, none⟩) 1 1 [.string x.nm, .int .i64 x.st, .int .i64 x.ag.c, .int .i64 x.ag.hi, .int .u64 x.ag.lo, .int .i64 x.ag.mn, .int .i64 x.ag.mx] (by rfl) rfl HSL.out HON.out HLE.out HBS.out ?_
        intro A7 c7 w9 ho9 hg9 hat9;have X9 := HSA.out.box.grown hg9 (HSA.out.box.not_row (HSA.out.row k hkn) (by decide));have d8 := X9.at_ k (v := cell k) (by simp [hkn]);have f8 := X9.free k))
    all_goals
     have hP := HS6.out.put hkn x HHA.out hg9 ho9 hat9
     rw [show (fun i => if i = k then Ja0 n (l.take q) i ++ [x] else Ja0 n (l.take q) i) = Ja0 n (l.take (q + 1)) from by
      funext i
      rw [HPS.out i, <- HK.out];by_cases e : i = k
      · rw [if_pos e, if_pos e.symm]
      · rw [if_neg e, if_neg (fun h => e h.symm)]] at hP
     have HPP := zI hP;clear hP ho9 hg9 hat9 X9;go_wp2_with fail
     go_roundw
     case rel => exact ⟨q + 1, _, by omega, by go_num, HPP.out⟩
     case measure => simp [intOf]; omega
  · have hqe : q = m := by omega
    have HTE := zI (show l.take q = l from List.take_of_length_le (by rw [HLN.out]; omega));rw [HTE.out] at hS;have HSE := zI hS;clear hS;go_wp2_with fail
    go_ret;exact ⟨gO, cell, rfl, HSE.out⟩
structure Wm where
 t : Nat
 s : Nat
 l : List Rc
 B : Option (Nat × Nat)
 d : Nat
def Wm.raw (x : Wm) : PRaw := ⟨0, (x.t : Int), (x.s : Int), 0, (sgN x.l.length : Int), none, 0, 0, x.B, x.l.length, x.d⟩
def Wm.cells (x : Wm) : List Value := x.raw.cells
abbrev Wv := Nat × Nat × List Rc
def Wm.v (x : Wm) : Wv := (x.t, x.s, x.l)
def Jdk (i n : Nat) (l : List Rc) (k : Nat) : List Wv := (List.range k).filterMap fun q => if Ja0 n l q = [] then none else some (i, q, Ja0 n l q)
theorem Jd7 (i n : Nat) (l : List Rc) (k : Nat) : Jdk i n l (k + 1) = Jdk i n l k ++ (if Ja0 n l k = [] then [] else [(i, k, Ja0 n l k)]) := by
 unfold Jdk;rw [List.range_succ, List.filterMap_append]
 congr 1
 by_cases h : Ja0 n l k = [] <;> simp [h]
def Jue (t : Tv) (i : Nat) : List Wv := Jdk i (t.r.sh i).toNat (t.tab i) (t.r.sh i).toNat
def Jah (t : Tv) (k : Nat) : List Wv := (List.range k).flatMap (Jue t)
theorem Jdl (t : Tv) (k : Nat) : Jah t (k + 1) = Jah t k ++ Jue t k := by unfold Jah; rw [List.range_succ, List.flatMap_append]; simp
structure WdS (w wr : World) (go : Nat) (A : Option Addr) (c : Nat) (ws : List Wm) : Prop where
 box : Bx wr go 91 #[.slice A ws.length c]
 own : wr.ownsRow w.heap.size 144 7 (.slice A ws.length c) ws.length (ws.flatMap Wm.cells)
 row : ∀ x ∈ ws, wr.ownsRow w.heap.size 169 7 (.slice (adr x.B) x.l.length x.d) x.l.length (x.l.flatMap Rc.cells)
 chg : Chg (fun b => b = go) w wr
 lt : go < w.heap.size
section
variable {w wr w1 w' : World} {go : Nat} {A A' : Option Addr} {c c' : Nat} {ws : List Wm}
theorem WdS.below (h : WdS w wr go A c ws) (hb : Below wr.heap.size wr w') : WdS w w' go A c ws := ⟨h.box.below hb, Jaj h.own hb, fun x hx => Jaj (h.row x hx) hb, h.chg.then_below hb, h.lt⟩
theorem WdS.snoc (h : WdS w wr go A c ws) (x : Wm) (hx : wr.ownsRow w.heap.size 169 7 (.slice (adr x.B) x.l.length x.d) x.l.length (x.l.flatMap Rc.cells))
  (hg : wr.grownBy w1 (Value.slice A ws.length c).ownBlock) (ho : w1.ownsRow w.heap.size 144 7 (.slice A' (ws.length + 1) c') (ws.length + 1) (ws.flatMap Wm.cells ++ x.cells)) :
  WdS w (w1.setCell ⟨go, 0, none⟩ (.slice A' (ws.length + 1) c')) go A' c' (ws ++ [x]) := by
 have hb1 := h.box.grown hg (h.box.not_row h.own (by decide));have hs := Jai w1 go 0 (.slice A' (ws.length + 1) c')
 have key : ∀ y : Wm, wr.ownsRow w.heap.size 169 7 (.slice (adr y.B) y.l.length y.d) y.l.length (y.l.flatMap Rc.cells) -> (w1.setCell ⟨go, 0, none⟩ (.slice A' (ws.length + 1) c')).ownsRow w.heap.size 169 7 (.slice (adr y.B) y.l.length y.d) y.l.length (y.l.flatMap Rc.cells) := fun y hy => by
  have h1 := hy.kept hg (Jgw hy h.own (by decide));exact h1.kept hs (.inr fun e => (hb1.not_row h1 (by decide)) e.symm)
 refine ⟨?_, ?_, fun y hy => ?_, ?_, h.lt⟩
 · have := hb1.set 0 (.slice A' (ws.length + 1) c')
   rw [List.length_append];exact this
 · rw [List.length_append, List.flatMap_append]
   simpa using ho.kept hs (.inr fun e => (hb1.not_row ho (by decide)) e.symm)
 · rcases List.mem_append.1 hy with hy | hy
   · exact key y (h.row y hy)
   · rw [List.mem_singleton.1 hy]; exact key x hx
 · exact (h.chg.trans (Chg.of_grown (F := fun b => (Value.slice A ws.length c).ownBlock = some b) hg (fun _ e => e)) (fun b e => .inr (h.own.lt b e).1)).trans (Chg.of_grown (F := fun b => b = go) hs (fun b e => by cases e; rfl)) (fun b e => .inl e)
end
structure SpK (w wr : World) (gO n : Nat) (cell : Nat -> Value) (ls : Nat -> List Rc) : Prop where
 box : Bx wr gO 140 ((List.range n).map cell).toArray
 row : ∀ k, k < n -> wr.ownsRow w.heap.size 169 7 (cell k) (ls k).length ((ls k).flatMap Rc.cells)
section
variable {w w0 wr w1 w' : World} {go gO n : Nat} {A A' : Option Addr} {c c' : Nat} {ws : List Wm} {cell : Nat -> Value} {ls : Nat -> List Rc}
theorem SpK.below (h : SpK w wr gO n cell ls) (hb : Below wr.heap.size wr w') : SpK w w' gO n cell ls := ⟨h.box.below hb, fun k hk => Jaj (h.row k hk) hb⟩
theorem SpK.of (h : SplW w wr gO n cell ls) (hw : w0.heap.size <= w.heap.size) : SpK w0 wr gO n cell ls := ⟨h.box, fun k hk => Jdp (h.row k hk) hw⟩
theorem SpK.laid (h : SpK w0 wr gO n cell ls) (hW : WdS w wr go A c ws) (hg : wr.grownBy w1 (Value.slice A ws.length c).ownBlock) (v : Value) : SpK w0 (w1.setCell ⟨go, 0, none⟩ v) gO n cell ls := by
 have hs := Jai w1 go 0 v;have hb1 := hW.box.grown hg (hW.box.not_row hW.own (by decide));refine ⟨(h.box.grown hg (h.box.not_row hW.own (by decide))).other (p := ⟨go, 0, none⟩) (fun e => ?_) v, fun k hk => ?_⟩
 · have h1 := h.box.blk
   have h2 := hW.box.blk;rw [show gO = go from e, h2] at h1;injection h1 with h1;injection h1 with _ h1
   revert h1; decide
 · have h1 := (h.row k hk).kept hg (Jgw (h.row k hk) hW.own (by decide))
   exact h1.kept hs (.inr fun e => (hb1.not_row h1 (by decide)) e.symm)
end
end Go.Proofs.YtalkkhafcfhglaaGreatDoor
