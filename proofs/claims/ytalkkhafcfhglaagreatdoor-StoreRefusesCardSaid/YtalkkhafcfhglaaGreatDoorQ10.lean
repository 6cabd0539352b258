/-
  Several texts in one: LedgerMove, LedgerNew, App, Structs, PolP, Foot.
-/
import Derived.Deep.AppendLies
import Derived.RegionTactic
import Derived.OwnWalk
import Derived.Deep.Slices
import Derived.Deep.Fields
import Derived.ChangeSame
import Derived.Lib.SliceRun
import Derived.OpenShut
import Derived.Test.YtalkkhafcfhglaaGreatDoorQ9
import Derived.Test.YtalkkhafcfhglaaGreatDoorQ4
set_option maxRecDepth 100000
set_option maxHeartbeats 4000000
namespace Go.Proofs.YtalkkhafcfhglaaGreatDoor.Led
open Go.RowKit Go.Maps
def Jdu (xs : List Acc) (nm : List UInt8) (t : ByteArray) (zs : List Int) : List Int := match Ja4 xs nm with | none => [] | some a => if 1 <= t.size /\ t.size <= 15 then (outAll a.held zs).2 else []
def Jz0 (O : List Int) (v : AV) : AV := (v.1, v.2.1, lessU v.2.2 O)
def J4y (O : List Int) (v : AV) : AV := (v.1, v.2.1, insAll v.2.2 O)
def Jvm (vs : List AV) (nm t : List UInt8) (O : List Int) : List AV := if O = [] then vs else setV (Jmd (setV vs nm (Jz0 O)) t) t (J4y O)
def Jgv (B g m mm : Nat) (f n : Int) (us : List Int) (xs : List Acc) (s t : ByteArray) (zs : List Int) (w : World) (e : Ending) (w' : World) : Prop :=
 ∃ ys, e = .returned (.int .i64 (Jdu xs s.data.toList t zs).length) /\ Jad w' B g m mm f n us ys /\ view ys = Jvm (view xs) s.data.toList t.data.toList (Jdu xs s.data.toList t zs) /\ ys.length <= xs.length + 1 /\ Chg (LedF m mm xs) w w' /\ Jau w.heap.size xs ys
theorem Jku {w : World} {P : Program} {k : TypeId} {R : Value -> Option (DataW Unit × List MemPlace)} {b n : Nat} {D : DataW Unit} (h : w.ownsMap P k R b n D) (o : Nat) : w.cell? ⟨b, o, none⟩ = none := by
 obtain ⟨es, c, h1, _⟩ := h;simp [World.cell?, h1]
theorem Jz1 {B g m mm : Nat} {f n : Int} {us : List Int} {xs : List Acc} (s t : ByteArray) (A : Option Addr) (k c : Nat) (zs : List Int) (w : World) (h : Jad w B g m mm f n us xs) (hs : s.size <= maxLen) (ht : t.size <= maxLen) (hz : Ints w .i64 A k zs) (hk : k <= 1000000) (hB : B <= w.heap.size) (hfew : xs.length < 1000000) :
  Calls Tryz.prog 147 #[.pointer (some ⟨g, 0, none⟩), .string s, .string t, .slice A k c] w (Jgv B g m mm f n us xs s t zs w) := by
 cases hf : Ja4 xs s.data.toList with
 | none =>
   have HO := zI (show Jdu xs s.data.toList t zs = [] from by unfold Jdu; rw [hf]);have HF := zI (show Jke (Ja4 xs s.data.toList) = .pointer none from by rw [hf]; rfl);clear hf;go_enter Tryz.func147, Tryz.ntmps147;go_wp2_with (go_at_call 89; refine (Jb6 s _ h hs).mono ?_; rw [HF.out]; rintro e w1 ⟨rfl, rfl⟩)
   go_ret;unfold Jgv;rw [HO.out];exact ⟨xs, rfl, h, (if_pos rfl).symm, by omega, Chg.refl _ _, Jau.refl _ _⟩
 | some a =>
   have HF := zI (show Jke (Ja4 xs s.data.toList) = .pointer (some ⟨a.ab, 0, none⟩) from by rw [hf]; rfl);by_cases h2 : 1 <= t.size /\ t.size <= 15
   rotate_left
   · have HO := zI (show Jdu xs s.data.toList t zs = [] from by unfold Jdu; rw [hf]; exact if_neg h2)
     have HD := zI (decide_eq_false h2);clear h2 hf;go_enter Tryz.func147, Tryz.ntmps147
     go_wp2_with (first
      | (go_at_call 89; refine (Jb6 s _ h hs).mono ?_; rw [HF.out]; rintro e w1 ⟨rfl, rfl⟩)
      | (go_at_call 216; refine (Jd3 t _ ht).mono ?_; rw [HD.out]; rintro e w1 ⟨rfl, rfl⟩))
     go_ret;unfold Jgv;rw [HO.out];exact ⟨xs, rfl, h, (if_pos rfl).symm, by omega, Chg.refl _ _, Jau.refl _ _⟩
   obtain ⟨ha, hn⟩ := Jbk hf;have OL := Jn0 a.held zs;obtain ⟨O, hO⟩ : ∃ O, O = (outAll a.held zs).2 := ⟨_, rfl⟩;have HO := zI (show Jdu xs s.data.toList t zs = O from by unfold Jdu; rw [hf, hO]; exact if_pos h2);have HO2 := zI (show (outAll a.held zs).2 = O from hO.symm);have HO1 := zI (show (outAll a.held zs).1 = lessU a.held O from by rw [hO]; exact OL.left);have hnd : O.Nodup := by rw [hO]; exact OL.nodup
   have hsubH : ∀ z ∈ O, z ∈ a.held := fun z hz => (OL.sub z (by rw [<- hO]; exact hz)).1;have hsub : ∀ z ∈ O, z ∈ us := fun z hz => h.sub ha z (hsubH z hz);have HLn := zI (Ji8 h.pool.set.rising.nodup hnd hsub);have hOl : O.length <= 4096 := by have := HLn.out; have := h.few; omega
   have HN := zI hn;have HSub := zI hsub;have HSubH := zI hsubH;have HD := zI (decide_eq_true h2);have H2 := zI h2;have hacc := h.acc a ha
   have HL1 : Ja1 n (lessU us O) (setA xs a.name (Jd2 (lessU a.held O))) := by
    refine h.law.setTo h.apart (fun x hx y hy => h.mem.one hx hy) ha (fun _ => rfl) (h.law.pos a ha) ?_ (fun z => ?_) (fun z hz => ?_)
    · show sumL xs - a.left + a.left + _ <= n
      have := h.law.room; have := HLn.out; omega
    · show z ∈ lessU us O ↔ z ∈ lessU a.held O \/ (z ∈ us /\ z ∉ a.held)
      unfold lessU;rw [List.mem_filter, List.mem_filter];have h1 := h.sub ha z;have h2 := HSubH.out z;simp only [decide_eq_true_eq];by_cases hz : z ∈ a.held
      · simp [hz, h1 hz]
      · simp [hz]; exact fun _ ho => hz (h2 ho)
    · exact .inl (List.mem_filter.1 (show z ∈ lessU a.held O from hz)).1
   have HS1 : sumL (setA xs a.name (Jd2 (lessU a.held O))) = sumL xs := by rw [Jik h.apart ha rfl]; show sumL xs - a.left + a.left = _; omega
   have HV1 : view (setA xs a.name (Jd2 (lessU a.held O))) = setV (view xs) a.name (Jz0 O) := Jfq (fun x hx e => by rw [h.mem.one hx ha e]; rfl);have HLaw := zI HL1;have HSum := zI HS1;have HView := zI HV1;clear h2 hf hn hsub hsubH OL hO hnd HL1 HS1 HV1;by_cases h0 : O.length = 0
   · have hz0 : ((O.length : Int) == 0) = true := beq_iff_eq.2 (by omega)
     have HE := zI (List.eq_nil_of_length_eq_zero h0);clear h0;go_enter Tryz.func147, Tryz.ntmps147
     go_wp2_with (first
      | (go_at_call 89; refine (Jb6 s _ h hs).mono ?_; rw [HF.out]; rintro e w1 ⟨rfl, rfl⟩)
      | (go_at_call 216; refine (Jd3 t _ ht).mono ?_; rw [HD.out]; rintro e w1 ⟨rfl, rfl⟩)
      | (go_at_call 219; refine (Jp2 B a A k c zs _ hacc hz hk).mono ?_; rintro e w2 ⟨v, rfl, hown, hset, hgr⟩
         rw [HO2.out] at hown;rw [HO1.out] at hset;obtain ⟨A2, c2, rfl, hints⟩ := own_ints hown (fun z hz => by have := h.pool.ins z (HSub.out z hz); have := h.pool.rng; exact wf_i64 (by omega)) (by unfold maxLen; omega);have hM2 := h.mem.heldTo ha hset hgr))
     go_ret;unfold Jgv;rw [HO.out];have hE := HE.out;subst hE;have hl := HLaw.out;have hle : lessU us [] = us := List.filter_eq_self.2 (by simp);rw [hle] at hl;refine ⟨_, rfl, ⟨hM2, hl⟩, ?_, by rw [Jc1]; omega, Jc0 (Chg.refl _ _) hgr (fun j hj => by cases hj; exact .inl (LedF.held ha)), (Jau.refl _ _).toH _ _⟩;rw [HView.out];show setV (view xs) a.name (Jz0 []) = if ([] : List Int) = [] then view xs else _;rw [if_pos rfl];unfold setV
     conv => rhs; rw [<- List.map_id (view xs)]
     apply List.map_congr_left;intro v _;split
     · show (v.1, v.2.1, lessU v.2.2 []) = v
       rw [show lessU v.2.2 [] = v.2.2 from List.filter_eq_self.2 (by simp)]
     · rfl
   · have hz0 : ((O.length : Int) == 0) = false := beq_eq_false_iff_ne.2 (by omega)
     have hz1 : decide ((O.length : Int) = 0) = false := decide_eq_false (by omega);have HE := zI (show O ≠ [] from fun e => h0 (by rw [e]; rfl));have hmmn := Jku h.own;go_enter Tryz.func147, Tryz.ntmps147
     go_wp2_with (first
      | (go_at_call 89; refine (Jb6 s _ h hs).mono ?_; rw [HF.out]; rintro e w1 ⟨rfl, rfl⟩)
      | (go_at_call 216; refine (Jd3 t _ ht).mono ?_; rw [HD.out]; rintro e w1 ⟨rfl, rfl⟩)
      | (go_at_call 219; refine (Jp2 B a A k c zs _ hacc hz hk).mono ?_; rintro e w2 ⟨v, rfl, hown, hset, hgr⟩
         rw [HO2.out] at hown;rw [HO1.out] at hset;obtain ⟨A2, c2, rfl, hints⟩ := own_ints hown (fun z hz => by have := h.pool.ins z (HSub.out z hz); have := h.pool.rng; exact wf_i64 (by omega)) (by unfold maxLen; omega);have hM2 := h.mem.heldTo ha hset hgr;have hB2 : B <= w2.heap.size := Nat.le_trans hB hgr.size;have hfew2 : (setA xs a.name (Jd2 (lessU a.held O))).length < 1000000 := by rw [Jc1]; exact hfew)
      | (go_at_call 217; refine (Jrj t _ hM2 H2.out hB2 hfew2).mono ?_; rintro e w3 ⟨ys, x, rfl, hx, hxn, hM3, hlaw3, hv3, hl3, hg3, hff3⟩
         have hints3 := Je1 hints hg3 (Jku hM2.own);have HXN := zI hxn;have HV3 := zI hv3;have HL3 := zI (hlaw3 _ HLaw.out);clear hxn hv3 hlaw3))
     have hset3 : Jbf w3 x.hb x.held := (hM3.acc x hx).set;obtain ⟨d0, d1, d2⟩ := (hM3.acc x hx).cells;have hne : x.ab ≠ x.hb := (hM3.acc x hx).ne (hM3.acc x hx);have hab : x.ab < w3.heap.size := lt_of_block (hM3.acc x hx).blk;have hchg3 : Chg (LedF m mm xs) w w3 := Jc0 (Jc0 (Chg.refl _ _) hgr (fun j hj => by cases hj; exact .inl (LedF.held ha))) hg3 (fun j hj => by cases hj; exact .inl (LedF.map _ _ _));have hff : Jau w.heap.size xs ys := ((Jau.refl _ _).toH _ _).trans hff3 hgr.size;have hB3 : B <= w3.heap.size := Nat.le_trans hB2 hg3.size
     have HFW := zI (show (x.held.length : Int) <= n from by
      have := Jfo hset3.rising (a := f) (b := f + n) (by have := h.pool.rng; omega) (fun z hz => h.pool.ins z (by
       have := (HL3.out.held z).2 ⟨x, hx, hz⟩;exact (List.mem_filter.1 this).1))
      omega)
     have hn4 := h.few.2.2.1;clear hints hown hset d0 d2 hmmn;go_loopw [35] (fun i wr => ∃ j : Nat, j <= O.length /\ i = .int .i64 j /\ Jbf wr x.hb (insAll x.held (O.take j)) /\ w3.grownBy wr (some x.hb)) (fun i _ => O.length - (intOf i).toNat)
     case atStart => exact ⟨0, Nat.zero_le _, rfl, hset3, World.grownBy.refl _ _⟩
     case round =>
      obtain ⟨j, hj, rfl, hset, hgr4⟩ := hrel;by_cases hlt : j < O.length
      · have hints4 := Je1 hints3 hgr4 hset3.nocell
        obtain ⟨b, off, rfl, hb, hc⟩ := hints4.get hlt;have hwf := hints4.wf _ (List.getElem_mem hlt);have hcell : wr.cell? ⟨x.ab, 1, none⟩ = some (.map (some x.hb)) := (World.cell?_of_block (a := ⟨x.ab, 1, none⟩) (hgr4.block _ hab (fun e => hne (by injection e)))).trans d1
        have hlen : (insAll x.held (O.take j)).length <= 8192 := by
         have h1 := len_insAll_le (O.take j) x.held;have h2 := HFW.out;rw [List.length_take] at h1; omega
        have HN2 := zI (show insAll x.held (O.take (j + 1)) = ins O[j] (insAll x.held (O.take j)) from by rw [List.take_succ_eq_append_getElem hlt, Jge]);clear hints4;go_wp2_with (at_mapUpdate; refine wpList_mapUpdate_own _ rfl _ _ _ 103 rfl 3 182 Jcf Tryz.underlying103 _ x.hb _ (setD (insAll x.held (O.take j))) rfl hset.own (by unfold maxLen; omega) _ _ _ rfl rfl (keyOf_int_mk Tryz.underlying3 hwf) _ [] unitElem_mk ?_; intro w5 hown5 hgrow5)
        rw [Jl7 _ _ hset.rising] at hown5;have hset5 : Jbf w5 x.hb (insAll x.held (O.take (j + 1))) := by rw [HN2.out]; exact Jbf.of_own hown5 (Jcg hset.rising)
        clear hown5;go_wp2;go_roundw
        case rel => exact ⟨j + 1, by omega, by go_num, hset5, Jap hgr4 hgrow5⟩
        case measure => simp [intOf]; omega
      · have HT2 := zI (show O.take j = O from List.take_of_length_le (by omega))
        rw [HT2.out] at hset;have hM5 := hM3.heldTo hx hset hgr4;have hd : decide ((j : Int) < (O.length : Int)) = false := decide_eq_false (by omega);go_wp2_with fail
        go_ret;unfold Jgv;rw [HO.out];have hv := HV3.out;have hL := HL3.out;have hsum : sumL ys = sumL xs := (by rw [sumV, hv, Jny, <- sumV, HSum.out]);refine ⟨_, rfl, ⟨hM5, ?_⟩, ?_, by rw [Jc1]; have := hl3; rw [Jc1] at this; exact this, Jc0 hchg3 hgr4 (fun j hj => by cases hj; exact hff.inF (LedF.held hx)), hff.toH _ _⟩
        · refine hL.setTo hM3.apart (fun y hy z hz => hM3.one hy hz) hx (fun _ => rfl) (hL.pos x hx) ?_ (fun z => ?_) (fun z hz => ?_)
          · show sumL ys - x.left + x.left + _ <= n
            have := h.law.room; omega
          · show z ∈ us ↔ z ∈ insAll x.held O \/ (z ∈ lessU us O /\ z ∉ x.held)
            have h1 : z ∈ x.held -> z ∈ us := fun hz => (List.mem_filter.1 ((hL.held z).2 ⟨x, hx, hz⟩)).1;have h2 := HSub.out z;rw [mem_insAll];unfold lessU;rw [List.mem_filter];simp only [decide_eq_true_eq];constructor
            · intro hz
              by_cases h3 : z ∈ O
              · exact .inl (.inr h3)
              · by_cases h4 : z ∈ x.held
                · exact .inl (.inl h4)
                · exact .inr ⟨⟨hz, h3⟩, h4⟩
            · rintro ((h3 | h3) | ⟨⟨h3, _⟩, _⟩)
              · exact h1 h3
              · exact h2 h3
              · exact h3
          · rcases mem_insAll.1 (show z ∈ insAll x.held O from hz) with hz | hz
            · exact .inl hz
            · refine .inr (fun h3 => ?_)
              have := (List.mem_filter.1 h3).2;simp at this;exact this hz
        · unfold Jvm
          rw [if_neg HE.out, <- HN.out, <- HView.out, <- HXN.out];have hv' := HV3.out;rw [<- HXN.out] at hv';rw [<- hv'];exact Jfq (fun y hy e => by rw [hM3.one hy hx e]; rfl)
def Jvn (from_ n : Int) (w : World) (e : Ending) (w' : World) : Prop :=
 ∃ g m mm f k, e = .returned (.pointer (some ⟨g, 0, none⟩)) /\ Jad w' w.heap.size g m mm f k [] [] /\ Below w.heap.size w w' /\
  f = max from_ 0 /\ k = if from_ < 0 \/ 4096 < from_ \/ n < 0 then 0 else min n 4096
theorem Jvo {w1 : World} {B g0 m : Nat} {f k : Int} (h : Jat w1 g0 m f k []) (hB : B <= w1.heap.size) (hm : B <= m) :
  Jad ((w1.alloc (.map #[] 0)).alloc (.cells #[.int .i64 f, .int .i64 k, .map (some m), .map (some w1.heap.size)] 108)) B (w1.heap.size + 1) m w1.heap.size f k [] [] := by
 have h2 := (h.below ((Below.refl _ _).alloc (Nat.le_refl _) (.map #[] 0))).below ((Below.refl _ _).alloc (Nat.le_refl _) (.cells #[.int .i64 f, .int .i64 k, .map (some m), .map (some w1.heap.size)] 108))
 have hblk : ((w1.alloc (.map #[] 0)).alloc (.cells #[.int .i64 f, .int .i64 k, .map (some m), .map (some w1.heap.size)] 108)).heap[w1.heap.size + 1]? = some (.cells #[.int .i64 f, .int .i64 k, .map (some m), .map (some w1.heap.size)] 108 (0, 0)) := by
  have := heap_alloc_new (w1.alloc (.map #[] 0)) (.cells #[.int .i64 f, .int .i64 k, .map (some m), .map (some w1.heap.size)] 108); simpa using this
 have hmlt := h.set.lt;refine ⟨⟨⟨⟨_, _, hblk⟩, h2.set, h.rng, by simp⟩, cell_of_row _ _ 3 _ _ _ hblk, (World.ownsMap_made w1 _ _ _).alloc _, by simp, by simp, by simp, by simp, by omega, by omega, hm, hB⟩, ⟨by simp, by simp, ?_, by simp, by simp⟩⟩;have := h.rng;simp [sumL]; omega
theorem Jz2 (from_ n : Int) (w : World) (hf : -9223372036854775808 <= from_ /\ from_ <= 9223372036854775807) :
  Calls Tryz.prog 59 #[.int .i64 from_, .int .i64 n] w (Jvn from_ n w) := by
 have hmm := @run_makeMap Tryz.prog;go_enter Tryz.func59, Tryz.ntmps59
 go_wp2_with (first
  | (go_at_call 117; refine (J2t _ _ _ hf).mono ?_; rintro e w1 ⟨g0, m, f, k, rfl, hp, hb1, hg0, hm, hf', hk⟩
     obtain ⟨c0, c1, c2⟩ := hp.cells;have HF := zI hf';have HK := zI hk;clear hf' hk))
 go_ret;exact ⟨_, m, _, f, k, rfl, Jvo hp hb1.size hm, (hb1.alloc hb1.size _).alloc (by have := hb1.size; simp; omega) _, HF.out, HK.out⟩
end Go.Proofs.YtalkkhafcfhglaaGreatDoor.Led
namespace Go.Proofs.YtalkkhafcfhglaaGreatDoor
open Go.RowKit
section
variable {P : Program} (w : World)
theorem Jhv (base : Nat) (t ty e : TypeId) (i : TypeInfo) (size : Nat) (ht : P.underlying t = some (.slice e)) (hi : P.info? e = some i)
  (v : Value) (n : Nat) (xs : List Value) (hown : w.ownsRow base e size v n xs) (c : Nat) : (Builtin.append_ #[t, t] ty #[v, .slice none 0 c]).run P w = .ok v w := by
 rcases hown.2 with ⟨rfl, rfl⟩ | ⟨g, cap, cur, rfl, _, _, hnc, _⟩
 · simp [Builtin.append_, run_underlying ht, sizeOf, typeInfo, hi, Builtin.lenOf, Builtin.firstCells]
 · simp [Builtin.append_, run_underlying ht, sizeOf, typeInfo, hi, Builtin.lenOf, Builtin.firstCells, hnc, storeCells]
theorem J13 {A : Addr} {news : List Value} (h : Sl w (some A) news) : ∀ j u, news[j]? = some u -> w.cell? (A.add j) = some u := by
 intro j u hu;obtain ⟨b, off, e, _, hc⟩ := h.at_ (fun e => by rw [e] at hu; simp at hu);cases e
 have : (⟨b, off, none⟩ : Addr).add j = ⟨b, off + j, none⟩ := by
  unfold Addr.add;split
  · next e => subst e; rfl
  · rfl
 rw [this];exact hc j u hu
theorem Jbs (base : Nat) (t ty e : TypeId) (i : TypeInfo) (z : Value) (size bytes : Nat) (ht : P.underlying t = some (.slice e)) (hi : P.info? e = some i) (hz : i.zero = some z)
  (hsize : i.size = size) (hby : i.bytes = bytes) (hzs : z.cells.size = size) (hsz : 0 < size)
  (v : Value) (n : Nat) (xs : List Value) (hown : w.ownsRow base e size v n xs)
  (A : Option Addr) (m c : Nat) (news : List Value) (hl : news.length = m * size) (hr : Sl w A news) (h1 : ∀ u ∈ news, u.oneCell' = true)
  (h63 : n + m <= maxLen) (hbytes : (n + m) * bytes <= 140737488355328) (hbase : base <= w.heap.size) :
  ∃ v' w', (Builtin.append_ #[t, t] ty #[v, .slice A m c]).run P w = .ok v' w' /\ w'.ownsRow base e size v' (n + m) (xs ++ news) /\ w.grownBy w' v.ownBlock /\
   (v'.ownBlock = v.ownBlock \/ v'.ownBlock = some w.heap.size) := by
 rcases A with _ | ad
 · have hn : news = [] := by
    rcases news with _ | ⟨a, r⟩
    · rfl
    · obtain ⟨b, off, e, _⟩ := hr.at_ (by simp)
      cases e
   subst hn
   have hm : m = 0 := by
    rcases Nat.eq_zero_or_pos m with h0 | h0
    · exact h0
    · have := Nat.mul_pos h0 hsz
      simp at hl; omega
   subst hm;exact ⟨v, w, Jhv w base t ty e i size ht hi v n xs hown c, by simpa using hown, World.grownBy.refl w _, .inl rfl⟩
 · obtain ⟨v', w', hrun, h2, h3, _, h5⟩ := run_append_own_at (P := P) w base t ty e i z size bytes ht hi hz hsize hby hzs hsz v n xs hown ad m c news hl (J13 w hr) h1 h63 hbytes hbase
   exact ⟨v', w', hrun, h2, h3, h5⟩
theorem Jh9 {o : Oper} {a : Act} {K : Act -> World -> Prop} {Q : Exit -> Act -> World -> Prop} (s x : Operand) (t : TypeId)
  (ho : o.op = .call { callee := .builtin .append, args := #[s, x], argTypes := #[t, t] })
  (base : Nat) (e : TypeId) (i : TypeInfo) (z : Value) (size bytes : Nat) (ht : P.underlying t = some (.slice e)) (hi : P.info? e = some i) (hz : i.zero = some z)
  (hsize : i.size = size) (hby : i.bytes = bytes) (hzs : z.cells.size = size) (hsz : 0 < size)
  (v : Value) (n : Nat) (xs : List Value) (hs : a.eval s = v) (hown : w.ownsRow base e size v n xs)
  (A : Option Addr) (m c : Nat) (news : List Value) (hx : a.eval x = .slice A m c) (hl : news.length = m * size) (hr : Sl w A news) (h1 : ∀ u ∈ news, u.oneCell' = true)
  (h63 : n + m <= maxLen) (hbytes : (n + m) * bytes <= 140737488355328) (hbase : base <= w.heap.size)
  (h : ∀ v' w', w'.ownsRow base e size v' (n + m) (xs ++ news) -> w.grownBy w' v.ownBlock -> (v'.ownBlock = v.ownBlock \/ v'.ownBlock = some w.heap.size) -> K (a.put o.dst v') w') : o.wp P a w K Q := by
 obtain ⟨v', w', hrun, h2, h3, h4⟩ := Jbs (P := P) w base t o.type e i z size bytes ht hi hz hsize hby hzs hsz v n xs hown A m c news hl hr h1 h63 hbytes hbase;unfold Oper.wp execOp;simp only [ho, resolve, invoke, builtin, Sem.run_bind, Sem.run_pure, Result.andThen_ok, List.map_toArray, List.map_cons, List.map_nil, hs, hx, hrun];exact h v' w' h2 h3 h4
theorem Jan {ops : Array Oper} {rest : List Oper} {o : Oper} {a : Act} {Q : Exit -> Act -> World -> Prop} (hgd : o.guard = none) (s x : Operand) (t : TypeId)
  (ho : o.op = .call { callee := .builtin .append, args := #[s, x], argTypes := #[t, t] })
  (base : Nat) (e : TypeId) (i : TypeInfo) (z : Value) (size bytes : Nat) (ht : P.underlying t = some (.slice e)) (hi : P.info? e = some i) (hz : i.zero = some z)
  (hsize : i.size = size) (hby : i.bytes = bytes) (hzs : z.cells.size = size) (hsz : 0 < size)
  (v : Value) (n : Nat) (xs : List Value) (hs : a.eval s = v) (hown : w.ownsRow base e size v n xs)
  (A : Option Addr) (m c : Nat) (news : List Value) (hx : a.eval x = .slice A m c) (hl : news.length = m * size) (hr : Sl w A news) (h1 : ∀ u ∈ news, u.oneCell' = true)
  (h63 : n + m <= maxLen) (hbytes : (n + m) * bytes <= 140737488355328) (hbase : base <= w.heap.size)
  (h : ∀ v' w', w'.ownsRow base e size v' (n + m) (xs ++ news) -> w.grownBy w' v.ownBlock -> (v'.ownBlock = v.ownBlock \/ v'.ownBlock = some w.heap.size) -> wpList P ops Q rest (a.put o.dst v') w') : wpList P ops Q (o :: rest) a w :=
 wpList_plain hgd fun _ hK => Jh9 w s x t ho base e i z size bytes ht hi hz hsize hby hzs hsz v n xs hs hown A m c news hx hl hr h1 h63 hbytes hbase fun v' w' h2 h3 h4 => hK _ _ (h v' w' h2 h3 h4)
theorem Jbw {ops : Array Oper} {o : Oper} {a : Act} {K : Act -> World -> Prop} {Q : Exit -> Act -> World -> Prop} {E : Prop} (hgd : o.guard = none) (s x : Operand) (t : TypeId)
  (ho : o.op = .call { callee := .builtin .append, args := #[s, x], argTypes := #[t, t] })
  (base : Nat) (e : TypeId) (i : TypeInfo) (z : Value) (size bytes : Nat) (ht : P.underlying t = some (.slice e)) (hi : P.info? e = some i) (hz : i.zero = some z)
  (hsize : i.size = size) (hby : i.bytes = bytes) (hzs : z.cells.size = size) (hsz : 0 < size)
  (v : Value) (n : Nat) (xs : List Value) (hs : a.eval s = v) (hown : w.ownsRow base e size v n xs)
  (A : Option Addr) (m c : Nat) (news : List Value) (hx : a.eval x = .slice A m c) (hl : news.length = m * size) (hr : Sl w A news) (h1 : ∀ u ∈ news, u.oneCell' = true)
  (h63 : n + m <= maxLen) (hbytes : (n + m) * bytes <= 140737488355328) (hbase : base <= w.heap.size)
  (h : ∀ v' w', w'.ownsRow base e size v' (n + m) (xs ++ news) -> w.grownBy w' v.ownBlock -> (v'.ownBlock = v.ownBlock \/ v'.ownBlock = some w.heap.size) -> K (a.put o.dst v') w') :
  if Region.wanted o (yielded ops a.tmps) = true then Oper.wp P o a w K Q else E := by
 have hw : Region.wanted o (yielded ops a.tmps) = true := by simp [Region.wanted, hgd]
 rw [if_pos hw];exact Jh9 w s x t ho base e i z size bytes ht hi hz hsize hby hzs hsz v n xs hs hown A m c news hx hl hr h1 h63 hbytes hbase h
end
open Go.ChangeShapes Go.Deep Go.WideShapes
section
variable {H : Type} {enc : TypeId × Value -> H} {P : Program} {w : World} {base : Nat} {spare : Nat -> Bool} {held : Bool}
end
open Go.ChangeAt
structure Ti where
 nm : ByteArray
 ev : Int
 kp : Int
 sh : Int
def Ti.cells (t : Ti) : List Value := [.string t.nm, .int .i64 t.ev, .int .i64 t.kp, .int .i64 t.sh]
structure Ti.Ok (t : Ti) : Prop where
 nm : t.nm.size <= maxLen
 ev : -9223372036854775808 <= t.ev /\ t.ev <= 9223372036854775807
 kp : -9223372036854775808 <= t.kp /\ t.kp <= 9223372036854775807
 sh : -9223372036854775808 <= t.sh /\ t.sh <= 9223372036854775807
theorem J14 (t : Ti) : t.cells.length = 4 := rfl
theorem J15 (t : Ti) : ∀ v ∈ t.cells, v.oneCell' = true := by
 intro v hv;simp [Ti.cells] at hv;rcases hv with rfl | rfl | rfl | rfl <;> rfl
theorem J2y (l : List Ti) : ∀ u ∈ l.flatMap Ti.cells, u.oneCell' = true := by
 intro u hu;obtain ⟨r, _, hr⟩ := List.mem_flatMap.1 hu;exact J15 r u hr
structure Tis (w : World) (A : Option Addr) (n : Nat) (l : List Ti) : Prop where
 sl : Sl w A (l.flatMap Ti.cells)
 len : l.length = n
 n_le : n <= maxLen
 ok : ∀ t ∈ l, t.Ok
structure J2z (w : World) (b off : Nat) (t : Ti) : Prop where
 c0 : w.cell? ⟨b, off, none⟩ = some (.string t.nm)
 c1 : w.cell? ⟨b, off + 1, none⟩ = some (.int .i64 t.ev)
 c2 : w.cell? ⟨b, off + 2, none⟩ = some (.int .i64 t.kp)
 c3 : w.cell? ⟨b, off + 3, none⟩ = some (.int .i64 t.sh)
theorem Tis.get {w : World} {A : Option Addr} {n : Nat} {l : List Ti} (h : Tis w A n l) {j : Nat} (hj : j < l.length) : ∃ b off, A = some ⟨b, off, none⟩ /\ b < w.heap.size /\ J2z w b (off + j * 4) l[j] := by
 have hne : l.flatMap Ti.cells ≠ [] := by
  cases l with
  | nil => simp at hj
  | cons a r => simp [Ti.cells]
 obtain ⟨b, off, e, hb, hc⟩ := h.sl.at_ hne;have g := fun q hq => Jii J14 l j hj q hq;have c0 := hc (j * 4 + 0) _ (g 0 (by omega));have c1 := hc (j * 4 + 1) _ (g 1 (by omega));have c2 := hc (j * 4 + 2) _ (g 2 (by omega));have c3 := hc (j * 4 + 3) _ (g 3 (by omega));rw [<- Nat.add_assoc] at c1 c2 c3;exact ⟨b, off, e, hb, c0, c1, c2, c3⟩
theorem Tis.below {w w' : World} {A : Option Addr} {n : Nat} {l : List Ti} (h : Tis w A n l) (hb : Below w.heap.size w w') : Tis w' A n l := ⟨h.sl.below hb, h.len, h.n_le, h.ok⟩
theorem Jrm {w : World} {B : Nat} {e : TypeId} {k : Nat} {v : Value} {n : Nat} {xs : List Value} (h : w.ownsRow B e k v n xs) : ∃ A c, v = .slice A n c /\ Sl w A xs := by
 rcases h.2 with ⟨rfl, rfl⟩ | ⟨g, cap, cur, rfl, _, hg, _, _, _, ht⟩
 · have : xs = [] := List.eq_nil_of_length_eq_zero (by simpa using h.1)
   subst this;exact ⟨none, 0, rfl, Sl.nil _ _⟩
 · refine ⟨some ⟨g, 0, none⟩, cap, rfl, ⟨fun _ => ⟨g, 0, rfl, lt_of_block hg, fun j u hu => ?_⟩⟩⟩
   have hj := (List.getElem?_eq_some_iff.1 hu).1;rw [h.1] at hj;rw [Nat.zero_add, h.cellAt j hj];exact hu
theorem Jhw {w : World} {B : Nat} {v : Value} {n : Nat} {l : List Ti} (h : w.ownsRow B 119 4 v n (l.flatMap Ti.cells)) (hl : l.length = n) (hok : ∀ t ∈ l, t.Ok) (hn : n <= maxLen) : ∃ A c, v = .slice A n c /\ Tis w A n l := by
 obtain ⟨A, c, e, hs⟩ := Jrm h;exact ⟨A, c, e, hs, hl, hn, hok⟩
theorem Ji9 {w : World} {B B' : Nat} {e : TypeId} {k n : Nat} {v : Value} {xs : List Value} (h : w.ownsRow B e k v n xs) (hb : B' <= B) : w.ownsRow B' e k v n xs :=
 ⟨h.1, h.2.imp id fun ⟨g, cap, cur, a, b, c⟩ => ⟨g, cap, cur, a, Nat.le_trans hb b, c⟩⟩
theorem Jbp {w : World} {B : Nat} {e : TypeId} {k n : Nat} {v : Value} {xs : List Value} (h : w.ownsRow B e k v n xs) {p : Addr} (hp : ∀ g, v.ownBlock = some g -> g ≠ p.block) (u : Value) : (w.setCell p u).ownsRow B e k v n xs := by
 have hg : w.grownBy (w.setCell p u) (some p.block) := ⟨rfl, rfl, rfl, by simp, fun j _ hne => Below.heap_setCell w p u j (fun e => hne (by rw [e]))⟩;refine h.kept hg ?_;cases hv : v.ownBlock with
 | none => exact .inl rfl
 | some g => exact .inr fun e => hp g hv (by injection e)
theorem Jn3 : (Tryz.prog.info? 119).map (fun i => (i.zero, i.size, i.bytes)) = some (some (.agg #[.string ByteArray.empty, .int .i64 0, .int .i64 0, .int .i64 0]), 4, 40) := by kernel_rfl
theorem J20 (k : IntKind) (zs : List Int) : ∀ u ∈ zs.map (Value.int k), u.oneCell' = true := by
 intro u hu;obtain ⟨z, _, rfl⟩ := List.mem_map.1 hu;rfl
theorem Jtk (A : Option Addr) (n c : Nat) (l : List Ti) (w : World) (h : Tis w A n l) (hn : n <= 1000000) :
  Calls Tryz.prog 185 #[.slice A n c] w fun e w' => ∃ v, e = .returned v /\ w'.ownsRow w.heap.size 119 4 v n (l.flatMap Ti.cells) /\ Below w.heap.size w w' := by
 have hq := fun (W : World) (a : Option Addr) (n c n' c' : Nat) => Lib.run_eql_slice_nil (P := Tryz.prog) W _ _ a n c n' c' Tryz.underlying61;obtain ⟨i0, hi, hz0, hz1, hz2⟩ := info_parts Jn3;have hL := zI (show (l.flatMap Ti.cells).length = n * 4 from by rw [Jfn J14, h.len]);have hS := zI (h.sl.alloc (.cells #[] 119));cases A with
 | none =>
   have h0 : n = 0 := by
    rcases Nat.eq_zero_or_pos n with h0 | h0
    · exact h0
    · obtain ⟨b, off, e, _⟩ := h.get (j := 0) (by rw [h.len]; exact h0)
      cases e
   subst h0;have hl : l = [] := List.eq_nil_of_length_eq_zero h.len;subst hl;go_enter Tryz.func185, Tryz.ntmps185;go_wp2;go_ret;exact ⟨_, rfl, World.ownsRow_nil _ _ _ _, Below.refl _ _⟩
 | some ad =>
   clear h;go_enter Tryz.func185, Tryz.ntmps185;go_wp2_with (at_builtin; refine Jan _ rfl _ _ 61 rfl w.heap.size 119 i0 _ 4 40 Tryz.underlying61 hi hz0 hz1 hz2 rfl (by decide) (.slice (some ⟨w.heap.size, 0, none⟩) 0 0) 0 [] rfl (World.ownsRow_made w #[] 0 (Nat.le_refl _) (Nat.zero_le _) (by simp)) (some ad) n c _ rfl hL.out hS.out (J2y l) ?c4 ?c5 ?c6 ?_; (unfold maxLen; omega); (omega); (simp); intro v' w1 hown1 hg1 _)
   go_ret;refine ⟨_, rfl, by simpa using hown1, ((Below.refl _ w).alloc (Nat.le_refl _) _).grown hg1 (by simp) (by intro k hk; simp [Value.ownBlock] at hk; omega)⟩
theorem own_ints {w : World} {B : Nat} {v : Value} {n : Nat} {zs : List Int} (h : w.ownsRow B 3 1 v n (zs.map (Value.int .i64))) (hl : zs.length = n) (hok : ∀ z ∈ zs, (Lit.int .i64 z).wf = true) (hn : n <= maxLen) : ∃ A c, v = .slice A n c /\ Ints w .i64 A n zs := by
 obtain ⟨A, c, e, hs⟩ := Jrm h;exact ⟨A, c, e, hs, hl, hn, hok⟩
abbrev polV (nm : ByteArray) (A : Option Addr) (n c : Nat) : Value := .agg #[.string nm, .slice A n c]
theorem Jn4 (nm : ByteArray) (A : Option Addr) (n c : Nat) (l : List Ti) (w : World) (h : Tis w A n l) (hn : n <= 1000000) :
  Calls Tryz.prog 115 #[polV nm A n c] w fun e w' => ∃ A' c', e = .returned (polV nm A' n c') /\ w'.ownsRow w.heap.size 119 4 (.slice A' n c') n (l.flatMap Ti.cells) /\ Below w.heap.size w w' := by
 have b0 := Bx.new w 63 #[.string nm, .slice A n c];have b1 := Bx.new (w.alloc (.cells #[.string nm, .slice A n c] 63)) 63 #[.string ByteArray.empty, .slice none 0 0];rw [show (w.alloc (.cells #[.string nm, .slice A n c] 63)).heap.size = w.heap.size + 1 from by simp] at b1;have b0' := b0.alloc (.cells #[.string ByteArray.empty, .slice none 0 0] 63);have hb : Below w.heap.size w ((w.alloc (.cells #[.string nm, .slice A n c] 63)).alloc (.cells #[.string ByteArray.empty, .slice none 0 0] 63)) := ((Below.refl _ _).alloc (Nat.le_refl _) _).alloc (by simp) _;have hC := Jtk A n c l _ (h.below hb) hn;have HC := zI hC;clear hC b0;go_enter Tryz.func115, Tryz.ntmps115;go_wp2_with fail
 refine HC.out.mono ?_;rintro e w2 ⟨v, rfl, hrow, hb2⟩;have p0 := b0'.below hb2;have p1 := b1.below hb2;have q0 := p0.at_ 0 rfl;have q1 := p0.at_ 1 rfl;have f1 := p0.free 1;have r0 := p1.at_ 0 rfl;have r1 := p1.at_ 1 rfl;have g0 := p1.free 0;have g1 := p1.free 1;have hbw := hb.trans (hb2.mono hb.size);obtain ⟨A', c', rfl, hs⟩ := Jrm hrow;have hlt := hrow.lt;have HLT := zI hlt;have HR := zI hrow;clear hlt hrow b0' b1 HC;go_wp2;have X := (((p1.other (p := ⟨w.heap.size, 1, none⟩) (by simp) (.slice A' n c')).set 0 (.string nm)).set 1 (.slice A' n c'));have x0 := X.at_ 0 rfl;have x1 := X.at_ 1 rfl;have hfin : Below w.heap.size w (((w2.setCell ⟨w.heap.size, 1, none⟩ (.slice A' n c')).setCell ⟨w.heap.size + 1, 0, none⟩ (.string nm)).setCell ⟨w.heap.size + 1, 1, none⟩ (.slice A' n c')) := ((hbw.setCell (by simp) _).setCell (by simp) _).setCell (by simp) _
 have hrow3 : (((w2.setCell ⟨w.heap.size, 1, none⟩ (.slice A' n c')).setCell ⟨w.heap.size + 1, 0, none⟩ (.string nm)).setCell ⟨w.heap.size + 1, 1, none⟩ (.slice A' n c')).ownsRow w.heap.size 119 4 (.slice A' n c') n (l.flatMap Ti.cells) := by
  have hne : ∀ k, k < w.heap.size + 2 -> ∀ g, (Value.slice A' n c').ownBlock = some g -> g ≠ k := fun k hk g hg e => by have := (HLT.out g hg).1; simp at this; omega
  refine Ji9 ?_ (Nat.le_trans (Nat.le_add_right _ 2) (Nat.le_refl _));have r := HR.out;simp only [World.size_alloc] at r;exact Jbp (Jbp (Jbp r (fun g hg => hne _ (by simp) g hg) _) (fun g hg => hne _ (by simp) g hg) _) (fun g hg => hne _ (by simp) g hg) _
 generalize (((w2.setCell ⟨w.heap.size, 1, none⟩ (.slice A' n c')).setCell ⟨w.heap.size + 1, 0, none⟩ (.string nm)).setCell ⟨w.heap.size + 1, 1, none⟩ (.slice A' n c')) = W at x0 x1 hfin hrow3 ⊢;exact bodyPost_ret (v := polV nm A' n c') (by simp [results, Tryz.results115, go_sem, x0, x1]) rfl ⟨A', c', rfl, hrow3, hfin⟩
end Go.Proofs.YtalkkhafcfhglaaGreatDoor
namespace Go.Proofs.YtalkkhafcfhglaaGreatDoor
open Go.RowKit
def made (w w' : World) (b : Nat) : Prop := w.heap.size <= b /\ b < w'.heap.size
def grow (F : Nat -> Prop) (w w' : World) (b : Nat) : Prop := F b \/ made w w' b
def Dj (F G : Nat -> Prop) : Prop := ∀ b, F b -> ¬ G b
def Ins (F : Nat -> Prop) (w : World) : Prop := ∀ b, F b -> b < w.heap.size
section
variable {F G H : Nat -> Prop} {w w1 w' : World}
theorem Dj.symm (h : Dj F G) : Dj G F := fun b hg hf => h b hf hg
theorem Ins.made : Ins (made w w') w' := fun _ h => h.2
theorem Ins.up (h : Ins F w) (hs : w.heap.size <= w'.heap.size) : Ins F w' := fun b hb => Nat.lt_of_lt_of_le (h b hb) hs
theorem Ins.grow (h : Ins F w) (hs : w.heap.size <= w'.heap.size) : Ins (grow F w w') w' := fun b hb => hb.elim (h.up hs b) (fun x => x.2)
theorem Jc9 {b : Nat} (h : made w1 w' b) (hs : w.heap.size <= w1.heap.size) : made w w' b := ⟨Nat.le_trans hs h.1, h.2⟩
theorem Jp3 {b : Nat} (h : made w w1 b) (hs : w1.heap.size <= w'.heap.size) : made w w' b := ⟨h.1, Nat.lt_of_lt_of_le h.2 hs⟩
theorem Jvp {b : Nat} (h : grow F w1 w' b) (hs : w.heap.size <= w1.heap.size) : grow F w w' b := h.imp id fun x => Jc9 x hs
theorem Jda {b : Nat} (h : grow F w w1 b) (hs : w1.heap.size <= w'.heap.size) : grow F w w' b := h.imp id fun x => Jp3 x hs
theorem Chg.seq (h : Chg F w w1) (k : Chg (Go.Proofs.YtalkkhafcfhglaaGreatDoor.grow F w w1) w1 w') : Chg F w w' := h.trans k fun _ hb => hb.imp id fun x => x.1
theorem Chg.sub (h : Chg F w w') (hs : ∀ b, F b -> G b) : Chg G w w' := h.mono fun b _ => hs b
theorem Chg.made (h : Below w.heap.size w w1) (k : Chg (Go.Proofs.YtalkkhafcfhglaaGreatDoor.made w w1) w1 w') : Below w.heap.size w w' := (Chg.after_below (F := fun _ => False) h k fun _ hb => .inr hb.1).none
theorem Chg.madeF (h : Below w.heap.size w w1) (k : Chg F w1 w') (hF : ∀ b, F b -> w.heap.size <= b) : Below w.heap.size w w' := (Chg.after_below (F := fun _ => False) h k fun b hb => .inr (hF b hb)).none
end
theorem grow_grow (F : Nat -> Prop) {w0 w1 w2 : World} (h1 : w0.heap.size <= w1.heap.size) (h2 : w1.heap.size <= w2.heap.size) : grow (grow F w0 w1) w1 w2 = grow F w0 w2 := by
 funext b
 apply propext;unfold grow made;constructor
 · rintro ((h | h) | h)
   · exact .inl h
   · exact .inr (by omega)
   · exact .inr (by omega)
 · rintro (h | h)
   · exact .inl (.inl h)
   · rcases Nat.lt_or_ge b w1.heap.size with x | x
     · exact .inl (.inr (by omega))
     · exact .inr (by omega)
section
variable {F G : Nat -> Prop} {w w' : World} {A : Option Addr} {n : Nat}
def AIn (F : Nat -> Prop) (A : Option Addr) : Prop := ∀ a, A = some a -> F a.block
theorem AIn.sub (h : AIn F A) (hs : ∀ b, F b -> G b) : AIn G A := fun a e => hs _ (h a e)
theorem Jcl {e : TypeId} {k c : Nat} {xs : List Value} (h : w'.ownsRow w.heap.size e k (.slice A n c) n xs) : AIn (made w w') A := by
 intro a e1;subst e1;exact h.lt _ rfl
theorem Sl.chg {xs : List Value} (h : Sl w A xs) (hc : Chg G w w') (hn : AIn (fun b => ¬ G b) A) : Sl w' A xs := by
 refine ⟨fun hne => ?_⟩;obtain ⟨b, off, rfl, hb, hx⟩ := h.at_ hne;have hnb : ¬ G b := hn _ rfl;exact ⟨b, off, rfl, Nat.lt_of_lt_of_le hb hc.size, fun j u hu => (hc.cell (p := ⟨b, off + j, none⟩) hb hnb).trans (hx j u hu)⟩
theorem Ints.chg {k : IntKind} {zs : List Int} (h : Ints w k A n zs) (hc : Chg G w w') (hn : AIn (fun b => ¬ G b) A) : Ints w' k A n zs := ⟨h.sl.chg hc hn, h.len, h.n_le, h.wf⟩
theorem Tis.chg {l : List Ti} (h : Tis w A n l) (hc : Chg G w w') (hn : AIn (fun b => ¬ G b) A) : Tis w' A n l := ⟨h.sl.chg hc hn, h.len, h.n_le, h.ok⟩
theorem Rcs.chg {l : List Rc} (h : Rcs w A n l) (hc : Chg G w w') (hn : AIn (fun b => ¬ G b) A) : Rcs w' A n l := ⟨h.sl.chg hc hn, h.len, h.n_le, h.nm, h.st, h.ok⟩
theorem Rcs.below {l : List Rc} (h : Rcs w A n l) (hb : Below w.heap.size w w') : Rcs w' A n l := ⟨h.sl.below hb, h.len, h.n_le, h.nm, h.st, h.ok⟩
theorem AIn.dj (h : AIn F A) (hd : Dj F G) : AIn (fun b => ¬ G b) A := fun a e => hd _ (h a e)
theorem MapAt.chg {mm : Nat} {l : List Rc} (h : MapAt w mm l) (hc : Chg G w w') (hn : ¬ G mm) : MapAt w' mm l := by
 obtain ⟨D, ⟨es, c, h1, h2⟩, h3⟩ := h.own;exact ⟨D, ⟨es, c, (hc.block _ h.lt hn).trans h1, h2⟩, h3⟩
theorem Jam.chg {g mm : Nat} {ev : Int} {l : List Rc} (h : Jam w g mm ev l) (hc : Chg G w w') (h1 : ¬ G g) (h2 : ¬ G mm) : Jam w' g mm ev l := ⟨(hc.block g h.lt h1).trans h.blk, h.map.chg hc h2⟩
end
end Go.Proofs.YtalkkhafcfhglaaGreatDoor
