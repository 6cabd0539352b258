/-
  Several texts in one: LedgerOut, LedgerHolds, PoolPlain, LedgerDraw, LedgerReturn.
-/
import Derived.Deep.RegionWith
import Derived.Test.YtalkkhafcfhglaaGreatDoorQ8
set_option maxRecDepth 100000
set_option maxHeartbeats 4000000
namespace Go.Proofs.YtalkkhafcfhglaaGreatDoor.Led
open Go.RowKit Go.Maps Go.Sort Go.Shelf
theorem Jnz {xs : List Acc} {nm : List UInt8} {F G : Acc -> Acc} (h : ∀ a, (F a).name = a.name) : setA (setA xs nm F) nm G = setA xs nm (fun a => G (F a)) := by
 unfold setA;rw [List.map_map];apply List.map_congr_left;intro a _;simp only [Function.comp];by_cases e : a.name = nm
 · rw [if_pos e, if_pos (by rw [h, e]), if_pos e]
 · rw [if_neg e, if_neg e, if_neg e]
theorem Jb7 {xs : List Acc} {a : Acc} {F : Acc -> Acc} (ha : a ∈ xs) : F a ∈ setA xs a.name F := Jeb.2 ⟨a, ha, by rw [if_pos rfl]⟩
theorem Ja1.setTo {n : Int} {us us' : List Int} {xs : List Acc} (h : Ja1 n us xs) (hp : xs.Pairwise (fun x y => x.name ≠ y.name)) (hone : ∀ x ∈ xs, ∀ y ∈ xs, x.name = y.name -> x = y) {a : Acc} (ha : a ∈ xs) {F : Acc -> Acc} (hF : ∀ x, (F x).name = x.name)
  (h1 : 0 <= (F a).left) (h2 : sumL xs - a.left + (F a).left + us'.length <= n) (h3 : ∀ z, z ∈ us' ↔ z ∈ (F a).held \/ (z ∈ us /\ z ∉ a.held)) (h4 : ∀ z ∈ (F a).held, z ∈ a.held \/ z ∉ us) :
  Ja1 n us' (setA xs a.name F) := by
 have key : ∀ y ∈ setA xs a.name F, (y = F a) \/ (y ∈ xs /\ y.name ≠ a.name) := by
  intro y hy;obtain ⟨x, hx, rfl⟩ := Jeb.1 hy;by_cases e : x.name = a.name
  · rw [if_pos e, hone x hx a ha e]; exact .inl rfl
  · rw [if_neg e]; exact .inr ⟨hx, e⟩
 refine ⟨fun y hy => ?_, fun y hy => ?_, ?_, fun z => ?_, fun y hy y' hy' z hz hz' => ?_⟩
 · rcases key y hy with rfl | ⟨hx, _⟩
   · rw [hF]; exact h.name a ha
   · exact h.name y hx
 · rcases key y hy with rfl | ⟨hx, _⟩
   · exact h1
   · exact h.pos y hx
 · rw [Jik hp ha rfl]; exact h2
 · rw [h3]
   constructor
   · rintro (hz | ⟨hz, hn⟩)
     · exact ⟨F a, Jb7 ha, hz⟩
     · obtain ⟨x, hx, hxz⟩ := (h.held z).1 hz
       refine ⟨x, Jeb.2 ⟨x, hx, ?_⟩, hxz⟩;rw [if_neg (fun e => hn (by rw [<- hone x hx a ha e]; exact hxz))]
   · rintro ⟨y, hy, hz⟩
     rcases key y hy with rfl | ⟨hx, hne⟩
     · exact .inl hz
     · exact .inr ⟨(h.held z).2 ⟨y, hx, hz⟩, fun hza => hne (h.once y hx a ha z hz hza)⟩
 · have cross : ∀ y, y ∈ xs -> y.name ≠ a.name -> ∀ z, z ∈ (F a).held -> z ∈ y.held -> False := by
    intro y hx hne z hz hz';rcases h4 z hz with hza | hzu
    · exact hne (h.once y hx a ha z hz' hza)
    · exact hzu ((h.held z).2 ⟨y, hx, hz'⟩)
   rcases key y hy with rfl | ⟨hx, hne⟩ <;> rcases key y' hy' with rfl | ⟨hx', hne'⟩
   · rfl
   · exact (cross y' hx' hne' z hz hz').elim
   · exact (cross y hx hne z hz' hz).elim
   · exact h.once y hx y' hx' z hz hz'
def Jec (s : List Int × List Int) (z : Int) : List Int × List Int := if z ∈ s.1 then (s.1.filter (fun x => decide (x ≠ z)), s.2 ++ [z]) else s
def outAll (hs zs : List Int) : List Int × List Int := zs.foldl Jec (hs, [])
theorem Ji6 (hs zs : List Int) (z : Int) : outAll hs (zs ++ [z]) = Jec (outAll hs zs) z := by simp [outAll, List.foldl_append]
structure J4x (hs zs : List Int) (O : List Int × List Int) : Prop where
 nodup : O.2.Nodup
 sub : ∀ z ∈ O.2, z ∈ hs /\ z ∈ zs
 left : O.1 = hs.filter fun x => decide (x ∉ O.2)
 len : O.2.length <= zs.length
 all : ∀ z ∈ zs, z ∈ hs -> z ∈ O.2
theorem Jn0 (hs zs : List Int) : J4x hs zs (outAll hs zs) := by
 obtain ⟨ys, rfl⟩ : ∃ ys : List Int, zs = ys.reverse := ⟨zs.reverse, by simp⟩
 induction ys with
 | nil => exact ⟨by simp [outAll], by simp [outAll], by simp [outAll]; exact (List.filter_eq_self.2 (by simp)).symm, by simp [outAll], by simp⟩
 | cons y r ih =>
   rw [List.reverse_cons, Ji6];obtain ⟨h1, h2, h3, h4, h5⟩ := ih;generalize outAll hs r.reverse = O at *;have hmem : y ∈ O.1 ↔ y ∈ hs /\ y ∉ O.2 := by rw [h3, List.mem_filter]; simp
   by_cases hy : y ∈ O.1
   · have e : Jec O y = (O.1.filter (fun x => decide (x ≠ y)), O.2 ++ [y]) := if_pos hy
     rw [e];obtain ⟨hy1, hy2⟩ := hmem.1 hy;refine ⟨?_, fun z hz => ?_, ?_, ?_, fun z hz hzh => ?_⟩
     · rw [List.nodup_append]
       exact ⟨h1, by simp, fun a ha b hb e => by simp at hb; rw [e, hb] at ha; exact hy2 ha⟩
     · rcases List.mem_append.1 hz with hz | hz
       · have := h2 z hz; exact ⟨this.1, by simp at this ⊢; exact .inl this.2⟩
       · simp at hz; subst hz; exact ⟨hy1, by simp⟩
     · rw [h3, List.filter_filter]
       apply List.filter_congr;intro x _;rw [Bool.eq_iff_iff]
       simp; exact And.comm
     · simp only [List.length_append, List.length_cons, List.length_nil] at *; omega
     · rcases List.mem_append.1 hz with hz | hz
       · exact List.mem_append.2 (.inl (h5 z hz hzh))
       · simp at hz; subst hz; simp
   · have e : Jec O y = O := if_neg hy
     rw [e];refine ⟨h1, fun z hz => ?_, h3, ?_, fun z hz hzh => ?_⟩
     · have := h2 z hz; exact ⟨this.1, by simp at this ⊢; exact .inl this.2⟩
     · simp only [List.length_append, List.length_cons, List.length_nil] at *; omega
     · rcases List.mem_append.1 hz with hz | hz
       · exact h5 z hz hzh
       · simp at hz; subst hz
         by_cases hzo : z ∈ O.2
         · exact hzo
         · exact absurd (hmem.2 ⟨hzh, hzo⟩) hy
theorem Jp2 (B : Nat) (a : Acc) (A : Option Addr) (k c : Nat) (zs : List Int) (w : World) (h : Je3 w B a) (hz : Ints w .i64 A k zs) (hk : k <= 1000000) :
  Calls Tryz.prog 219 #[.pointer (some ⟨a.ab, 0, none⟩), .slice A k c] w fun e w' => ∃ v, e = .returned v /\ w'.ownsRow w.heap.size 3 1 v (outAll a.held zs).2.length ((outAll a.held zs).2.map (Value.int .i64)) /\ Jbf w' a.hb (outAll a.held zs).1 /\ w.grownBy w' (some a.hb) := by
 have HL := zI hz.len;obtain ⟨i0, hi, hz0, hz1, hz2⟩ := info_parts Jfp;have hblt := lt_of_block h.blk;have hne : a.ab ≠ a.hb := h.ne h;go_enter Tryz.func219, Tryz.ntmps219;go_wp2;go_loopw [5, 14] (fun v i wr => ∃ j : Nat, j <= k /\ i = .int .i64 j /\ wr.ownsRow w.heap.size 3 1 v (outAll a.held (zs.take j)).2.length ((outAll a.held (zs.take j)).2.map (Value.int .i64)) /\ Jbf wr a.hb (outAll a.held (zs.take j)).1 /\ w.grownBy wr (some a.hb)) (fun _ i _ => k - (intOf i).toNat)
 case atStart => exact ⟨0, Nat.zero_le _, rfl, World.ownsRow_nil _ _ _ _, h.set, World.grownBy.refl _ _⟩
 case round =>
  obtain ⟨j, hj, rfl, hown, hset, hgr⟩ := hrel;by_cases hlt : j < k
  · have K : j < zs.length := by rw [HL.out]; exact hlt
    obtain ⟨b, off, rfl, hb, hc⟩ := (Je1 hz hgr h.set.nocell).get K;have hwf := hz.wf _ (List.getElem_mem K);have HN := zI (show outAll a.held (zs.take (j + 1)) = Jec (outAll a.held (zs.take j)) zs[j] from by rw [List.take_succ_eq_append_getElem K, Ji6]);have HLen : (outAll a.held (zs.take j)).2.length <= j := by have := (Jn0 a.held (zs.take j)).len; rw [List.length_take] at this; omega
    have hcell : wr.cell? ⟨a.ab, 1, none⟩ = some (.map (some a.hb)) := (World.cell?_of_block (a := ⟨a.ab, 1, none⟩) (hgr.block _ hblt (fun e => hne (by injection e)))).trans h.cells.2.1;have hsz : w.heap.size <= wr.heap.size := hgr.size;have hblt2 : a.ab < wr.heap.size := (by omega);generalize outAll a.held (zs.take j) = O at *;generalize zs[j]'K = z at *;by_cases hu : z ∈ O.1
    · have HX := zI (show Jec O z = (O.1.filter (fun x => decide (x ≠ z)), O.2 ++ [z]) from if_pos hu)
      have HU := zI (decide_eq_true hu);clear hu;have hown2 := hown.alloc (.cells #[] 182);have hset2 := hset.alloc (.cells #[] 182)
      go_wp2_with (first
       | (at_lookup; refine wpList_lookup_own_unit _ rfl _ _ 103 rfl 3 182 Jcf Tryz.underlying103 (Ji1 _) a.hb _ (setD O.1) rfl hset.own _ _ rfl (keyOf_int_mk Tryz.underlying3 hwf) ?_; rw [Jl6, HU.out])
       | (at_delete; refine wpList_delete_own _ rfl _ _ 103 3 rfl 182 Jcf Tryz.underlying103 _ a.hb _ (setD O.1) rfl hset2.own _ _ rfl (keyOf_int_mk Tryz.underlying3 hwf) ?_; intro w3 hown3 hturn3
          have hg3 := hturn3.grown;have hrow3 := hown2.kept hg3 (.inr (fun e => by have := (hown.lt _ e).1; have := h.set.lt; omega));have hs3 : w.heap.size <= w3.heap.size := by have := hg3.size; simp at this; omega
          have hset3 := Jvf hown3 hset.rising;clear hown3)
       | (at_builtin; refine wpList_append_own _ rfl _ _ 51 rfl w.heap.size 3 i0 (.int .i64 0) 1 8 Tryz.underlying51 hi hz0 hz1 hz2 rfl (by decide) _ _ _ rfl (hrow3.alloc _) ⟨w3.heap.size, 0, none⟩ 1 1 [.int .i64 z] rfl rfl (cell_one_new _ _ _) (ints_oneCell _ [z]) ?_ ?_ ?_ ?_
          · unfold maxLen; omega
          · omega
          · simp; omega
          intro v' w4 hown4 hgrow4 _))
      have hset4 := (hset3.alloc (.cells #[.int .i64 z] 3)).grown hgrow4 (fun e => by have := (hown.lt _ e.symm).1; have := h.set.lt; omega);have hgr4 := ((hgr.andThen (World.grownBy_alloc wr (.cells #[] 182) none) (fun _ e => nomatch e)).andThen hg3 (fun j e => .inr (by cases e; rfl))).andThen (World.grownBy_alloc w3 (.cells #[.int .i64 z] 3) none) (fun _ e => nomatch e);have hgr5 := hgr4.andThen hgrow4 (fun j e => .inl ((hown.lt _ e).1));go_roundw
      case rel => exact ⟨j + 1, by omega, by go_num, by rw [HN.out, HX.out]; simpa using hown4, by rw [HN.out, HX.out]; exact hset4, hgr5⟩
      case measure => simp [intOf]; omega
    · have HX := zI (show Jec O z = O from if_neg hu)
      have HU := zI (decide_eq_false hu);clear hu
      go_wp2_with (first
       | (at_lookup; refine wpList_lookup_own_unit _ rfl _ _ 103 rfl 3 182 Jcf Tryz.underlying103 (Ji1 _) a.hb _ (setD O.1) rfl hset.own _ _ rfl (keyOf_int_mk Tryz.underlying3 hwf) ?_; rw [Jl6, HU.out]))
      go_roundw
      case rel => exact ⟨j + 1, by omega, by go_num, by rw [HN.out, HX.out]; exact hown.alloc _, by rw [HN.out, HX.out]; exact hset.alloc _, hgr.andThen (World.grownBy_alloc wr (.cells #[] 182) none) (fun _ e => nomatch e)⟩
      case measure => simp [intOf]; omega
  · have e1 := zI (show zs.take j = zs from List.take_of_length_le (by rw [HL.out]; omega))
    go_wp2;go_ret;rw [e1.out] at hown hset;exact ⟨_, rfl, hown, hset, hgr⟩
def Je4 (o : Option Acc) : List Int := match o with | some a => a.held | none => []
theorem Jad.held_few {w : World} {B g m mm : Nat} {f n : Int} {us : List Int} {xs : List Acc} (h : Jad w B g m mm f n us xs) {a : Acc} (ha : a ∈ xs) : (a.held.length : Int) <= n := by
 have := Jfo (h.acc a ha).set.rising (a := f) (b := f + n) (by have := h.pool.rng; omega) (fun z hz => h.pool.ins z (h.sub ha z hz));omega
theorem Jn1 {B g m mm : Nat} {f n : Int} {us : List Int} {xs : List Acc} (s : ByteArray) (w : World) (h : Jad w B g m mm f n us xs) (hs : s.size <= maxLen) :
  Calls Tryz.prog 43 #[.pointer (some ⟨g, 0, none⟩), .string s] w fun e w' => ∃ v, e = .returned v /\ w'.ownsRow w.heap.size 3 1 v (Je4 (Ja4 xs s.data.toList)).length ((Je4 (Ja4 xs s.data.toList)).map (Value.int .i64)) /\ Below w.heap.size w w' := by
 cases hf : Ja4 xs s.data.toList with
 | none =>
   have HF := zI (show Jke (Ja4 xs s.data.toList) = .pointer none from by rw [hf]; rfl);clear hf;go_enter Tryz.func43, Tryz.ntmps43;go_wp2_with (go_at_call 89; refine (Jb6 s _ h hs).mono ?_; rw [HF.out]; rintro e w1 ⟨rfl, rfl⟩)
   go_ret;exact ⟨_, rfl, World.ownsRow_nil _ _ _ _, Below.refl _ _⟩
 | some a =>
   have ha := (Jbk hf).1;refine (callsIn_wide (n := 6)).1 ?_;have k := h.acc a ha;obtain ⟨c0, c1, c2⟩ := k.cells;have hbl := k.set.lt;have hfew := h.held_few ha;obtain ⟨_, _, h4096, _⟩ := h.few;have hmax : Maps.size (setD (H := Unit) a.held) <= maxLen := by rw [Jgq]; unfold maxLen; omega
   have hbytes : Maps.size (setD (H := Unit) a.held) * 8 <= 140737488355328 := by rw [Jgq]; omega
   have hseq : SeqGives Fence.wide 2 Tryz.prog 160 #[.pointer (some ⟨w.heap.size, 0, none⟩)] encZ (fun ss => ss.Perm (intKeys (setD (H := Unit) a.held))) (Maps.size (setD (H := Unit) a.held)) (w.alloc (.cells #[.map (some a.hb)] 103)) :=
    AnyZI.keys_gives (ρ := Tryz.keysA_ren) { Tryz.keysA with } Fence.wide _ trivial rfl (by omega) w.heap.size a.hb a.held.length (setD a.held) _ (by simp) (by simp) (by
     obtain ⟨es, clock, hb, Ft, hs, hD⟩ := k.set.own;exact ⟨es, clock, (Below.heap_alloc _ _ a.hb hbl).trans hb, Ft, hs, hD⟩)
   have cK : ∀ mb W, CallsIn Fence.wide 5 Tryz.prog 88 #[.map mb] W fun e w' => e = .returned (.func (.func 160) #[] #[.pointer (some ⟨W.heap.size, 0, none⟩)]) /\ w' = W.alloc (.cells #[.map mb] 103) := fun mb W => AnyZI.keys_in Tryz.keysA Fence.wide 5 trivial rfl mb W;have cS := AnyZI.sorted_in Tryz.sortedA Fence.wide 5 trivial trivial trivial trivial rfl (by omega) (J4w _) (enters_of Tryz.func159 (by kernel_rfl) rfl) 160 #[.pointer (some ⟨w.heap.size, 0, none⟩)] trivial (enters_of Tryz.func160 (by kernel_rfl) rfl) _ _ hmax hbytes _ hseq;change CallsIn _ _ Tryz.prog 87 _ _ _ at cS;have hfK : Fence.wide.fn 88 := trivial;have hfS : Fence.wide.fn 87 := trivial;have hfF : Fence.wide.fn 89 := trivial
   have cF : CallsIn Fence.wide 5 Tryz.prog 89 #[.pointer (some ⟨g, 0, none⟩), .string s] w fun e w' => e = .returned (.pointer (some ⟨a.ab, 0, none⟩)) /\ w = w' :=
    callsIn_wide.2 ((Jb6 s w h hs).mono fun e w' ⟨h1, h2⟩ => ⟨by rw [h1, hf]; rfl, h2⟩)
   clear hseq hmax hbytes hf;refine callsIn_of_wp Tryz.func43 rfl trivial ?_ rfl;simp only [Tryz.ntmps43, List.size_toArray, List.length_cons, List.length_nil, Nat.reduceAdd, Nat.reduceSub, Array.replicate_succ, Array.replicate_zero, List.push_toArray, List.append_toArray, List.nil_append, List.cons_append]
   gi_wp2_with (first
    | (gi_at_call 89; refine cF.mono ?_; rintro e w1 ⟨rfl, rfl⟩)
    | (gi_at_call 88; refine (cK _ _).mono ?_; rintro e w' ⟨rfl, rfl⟩)
    | (gi_at_call 87; refine cS.mono ?_; rintro e w' ⟨v, ss, rfl, hS, hrow, hnil, hb⟩))
   go_ret;rw [Jnu] at hS;have hlen : ss.length = a.held.length := hS.length_eq;have hso := sorted_perm k.set.rising hS;rw [hso, hlen] at hrow;exact ⟨v, rfl, ownsRow_base_a hrow (by simp), ((Below.refl _ w).alloc (Nat.le_refl _) _).trans (hb.mono (by simp))⟩
end Go.Proofs.YtalkkhafcfhglaaGreatDoor.Led
namespace Go.Proofs.YtalkkhafcfhglaaGreatDoor.Led
open Go.RowKit Go.Maps
theorem length_insAll : ∀ {zs us : List Int}, zs.Nodup -> (∀ z ∈ zs, z ∉ us) -> (insAll us zs).length = us.length + zs.length
 | [], us, _, _ => rfl
 | z :: r, us, hn, hd => by
   rw [List.nodup_cons] at hn;show (insAll (ins z us) r).length = _
   rw [length_insAll (zs := r) hn.2 (fun x hx hm => by
    rcases Jgd.1 hm with rfl | hm
    · exact hn.1 hx
    · exact hd x (by simp [hx]) hm), Jkq (hd z (by simp))]
   simp; omega
theorem Ji7 : ∀ {zs us : List Int} {c : Int}, zs.Nodup -> (∀ z ∈ zs, z ∈ us) -> zs.foldl Jdo (us, c) = (us.filter (fun x => decide (x ∉ zs)), c + zs.length)
 | [], us, c, _, _ => by simp; exact (List.filter_eq_self.2 (by simp)).symm
 | z :: r, us, c, hn, hm => by
   rw [List.nodup_cons] at hn;rw [List.foldl_cons];have e : Jdo (us, c) z = (us.filter (fun x => decide (x ≠ z)), c + 1) := if_pos (hm z (by simp))
   rw [e, Ji7 hn.2 (fun x hx => by
    rw [List.mem_filter];refine ⟨hm x (by simp [hx]), ?_⟩
    simp; rintro rfl; exact hn.1 hx)]
   refine Prod.ext ?_ ?_
   · simp only [List.filter_filter]
     apply List.filter_congr;intro x _
     simp; exact Bool.and_comm _ _
   · simp; omega
def Jct (xs : List Acc) (nm : List UInt8) (k : Int) : Int := if k < 0 then 1 else match Ja4 xs nm with | none => 8 | some a => if a.left < k then 20 else 0
def Jed (f n : Int) (us : List Int) (xs : List Acc) (nm : List UInt8) (k : Int) : List Int := if Jct xs nm k = 0 then (freeIn f us n.toNat).take k.toNat else []
def Jzy (k : Int) (out : List Int) (v : AV) : AV := (v.1, v.2.1 - k, insAll v.2.2 out)
def Jfr (B g m mm : Nat) (f n : Int) (us : List Int) (xs : List Acc) (s : ByteArray) (k : Int) (w : World) (e : Ending) (w' : World) : Prop :=
 ∃ v ys, e = .returned (.tuple #[v, .int .i64 (Jct xs s.data.toList k)]) /\ w'.ownsRow w.heap.size 3 1 v (Jed f n us xs s.data.toList k).length ((Jed f n us xs s.data.toList k).map (Value.int .i64)) /\
  Jad w' B g m mm f n (insAll us (Jed f n us xs s.data.toList k)) ys /\ view ys = (if Jct xs s.data.toList k = 0 then setV (view xs) s.data.toList (Jzy k (Jed f n us xs s.data.toList k)) else view xs) /\ ys.length = xs.length /\ Below B w w' /\ ∀ N, Jau N xs ys
def Kept (w w' : World) (m : Nat) (xs : List Acc) : Prop := ∀ i, i < w.heap.size -> i ≠ m -> (∀ a ∈ xs, i ≠ a.ab /\ i ≠ a.hb) -> w'.heap[i]? = w.heap[i]?
theorem Kept.refl (w : World) (m : Nat) (xs : List Acc) : Kept w w m xs := fun _ _ _ _ => rfl
structure DrawLaw (f n : Int) (us : List Int) (k : Int) (O : List Int) : Prop where
 nodup : O.Nodup
 fresh : ∀ z ∈ O, f <= z /\ z < f + n /\ z ∉ us
 len : (O.length : Int) = k
theorem Jvj {f n : Int} {us : List Int} {k : Int} (hn : 0 <= n) (hr : Rising us) (hi : ∀ z ∈ us, f <= z /\ z < f + n) (hk : 0 <= k) (hk2 : k <= n - us.length) : DrawLaw f n us k ((freeIn f us n.toNat).take k.toNat) := by
 have hl := freeIn_len (f := f) (us := us) (n := n.toNat) hr (fun z hz => by have := hi z hz; omega);refine ⟨(List.take_sublist _ _).nodup (rising_freeIn f us _).nodup, fun z hz => ?_, ?_⟩
 · have h3 := mem_freeIn.1 (List.mem_of_mem_take hz)
   exact ⟨h3.1, by have := h3.2.1; omega, h3.2.2⟩
 · rw [List.length_take]; omega
theorem Jks (z : Int) : ∀ l : List Int, (ins z l).length <= l.length + 1
 | [] => by simp [ins]
 | y :: r => by
   have := Jks z r;unfold ins;split
   · simp
   · split <;> (simp only [List.length_cons]; omega)
theorem len_insAll_le : ∀ (zs us : List Int), (insAll us zs).length <= us.length + zs.length
 | [], us => by simp [insAll]
 | z :: r, us => by
   have h1 := len_insAll_le r (ins z us);have h2 := Jks z us;show (insAll (ins z us) r).length <= _;simp only [List.length_cons]; omega
theorem Jvk {B g m mm : Nat} {f n : Int} {us : List Int} {xs : List Acc} (s : ByteArray) (k : Int) (w : World) (h : Jad w B g m mm f n us xs) (hs : s.size <= maxLen) (hk : -9223372036854775808 <= k /\ k <= 9223372036854775807) (hB : B <= w.heap.size) :
  Calls Tryz.prog 146 #[.pointer (some ⟨g, 0, none⟩), .string s, .int .i64 k] w fun e w' => Jfr B g m mm f n us xs s k w e w' /\ Kept w w' m xs := by
 obtain ⟨hk1, hk2⟩ := hk;obtain ⟨nm, hnm⟩ : ∃ nm, nm = s.data.toList := ⟨_, rfl⟩;have HNM := zI hnm;clear hnm;by_cases h1 : k < 0
 · have HE := zI (show Jct xs s.data.toList k = 1 from if_pos h1)
   have HO := zI (show Jed f n us xs s.data.toList k = [] from if_neg (by rw [HE.out]; omega));go_enter Tryz.func146, Tryz.ntmps146;go_wp2_with fail
   go_ret2;unfold Jfr;rw [HE.out, HO.out];exact ⟨⟨_, xs, rfl, World.ownsRow_nil _ _ _ _, h, rfl, rfl, Below.refl _ _, fun _ => Jau.refl _ _⟩, Kept.refl _ _ _⟩
 cases hf : Ja4 xs s.data.toList with
 | none =>
   have HE := zI (show Jct xs s.data.toList k = 8 from by unfold Jct; rw [if_neg h1, hf]);have HO := zI (show Jed f n us xs s.data.toList k = [] from if_neg (by rw [HE.out]; omega));have HF := zI (show Jke (Ja4 xs s.data.toList) = .pointer none from by rw [hf]; rfl);clear hf;go_enter Tryz.func146, Tryz.ntmps146;go_wp2_with (go_at_call 89; refine (Jb6 s _ h hs).mono ?_; rw [HF.out]; rintro e w1 ⟨rfl, rfl⟩)
   go_ret2;unfold Jfr;rw [HE.out, HO.out];exact ⟨⟨_, xs, rfl, World.ownsRow_nil _ _ _ _, h, rfl, rfl, Below.refl _ _, fun _ => Jau.refl _ _⟩, Kept.refl _ _ _⟩
 | some a =>
   obtain ⟨ha, hn⟩ := Jbk hf;have HF := zI (show Jke (Ja4 xs s.data.toList) = .pointer (some ⟨a.ab, 0, none⟩) from by rw [hf]; rfl);obtain ⟨c0, c1, c2⟩ := (h.acc a ha).cells;obtain ⟨l1, l2⟩ := h.left_bd ha;by_cases h2 : a.left < k
   · have HE := zI (show Jct xs s.data.toList k = 20 from by unfold Jct; rw [if_neg h1, hf]; exact if_pos h2)
     have HO := zI (show Jed f n us xs s.data.toList k = [] from if_neg (by rw [HE.out]; omega));clear hf hn;go_enter Tryz.func146, Tryz.ntmps146;go_wp2_with (go_at_call 89; refine (Jb6 s _ h hs).mono ?_; rw [HF.out]; rintro e w1 ⟨rfl, rfl⟩)
     go_ret2;unfold Jfr;rw [HE.out, HO.out];exact ⟨⟨_, xs, rfl, World.ownsRow_nil _ _ _ _, h, rfl, rfl, Below.refl _ _, fun _ => Jau.refl _ _⟩, Kept.refl _ _ _⟩
   · have HE := zI (show Jct xs s.data.toList k = 0 from by unfold Jct; rw [if_neg h1, hf]; exact if_neg h2)
     have hroom : k <= n - us.length := by have := h.few; have := Jgf h.pos ha; omega
     have hrng := h.pool.rng;have HD := Jvj (f := f) (n := n) (us := us) (k := k) (by omega) h.pool.set.rising h.pool.ins (by omega) hroom;obtain ⟨O, hO⟩ : ∃ O, O = (freeIn f us n.toNat).take k.toNat := ⟨_, rfl⟩;rw [<- hO] at HD;have HO := zI (show Jed f n us xs s.data.toList k = O from by rw [hO]; exact if_pos HE.out);have HT := zI (show Jcs f n us k = (O, 0) from by unfold Jcs; rw [if_neg h1, if_neg (by omega), hO]);have HN := zI hn;have HDL := zI HD;have hOlen : (O.length : Int) = k := HD.len;have hOl : O.length <= 4096 := (by omega);have HOk := zI hOlen;clear hf hn hO hrng hOlen HD;go_enter Tryz.func146, Tryz.ntmps146
     go_wp2_with (first
      | (go_at_call 89; refine (Jb6 s _ h hs).mono ?_; rw [HF.out]; rintro e w1 ⟨rfl, rfl⟩)
      | (go_at_call 218; refine (Jzn g m f n us k w h.pool ⟨hk1, hk2⟩).mono ?_; rintro e w1 ⟨v, rfl, hown, hp, hg1⟩
         rw [HT.out] at hown hp;rw [HT.out];simp only at hown hp;obtain ⟨A, c, rfl, hints⟩ := own_ints hown (fun z hz => by have := HDL.out.fresh z hz; have := h.pool.rng; exact wf_i64 (by omega)) (by unfold maxLen; omega);have hM1 := h.mem.pooled hp hg1;obtain ⟨d0, d1, d2⟩ := (hM1.acc a ha).cells))
     have hhb : a.hb < w.heap.size := (h.acc a ha).set.lt;have hab : a.ab < w.heap.size := lt_of_block (h.acc a ha).blk;have hne : a.ab ≠ a.hb := (h.acc a ha).ne (h.acc a ha);have hM2 := hM1.left ha (a.left - k);have hgc : w1.grownBy (w1.setCell ⟨a.ab, 0, none⟩ (.int .i64 (a.left - k))) (some a.ab) := ⟨rfl, rfl, rfl, by simp, fun i _ hne => heap_setCell_other w1 ⟨a.ab, 0, none⟩ i _ (fun e => hne (by rw [e]))⟩;have hown2 := hown.kept hgc (.inr (fun e => by have := (hown.lt _ e).1; omega))
     have hkept2 : Kept w (w1.setCell ⟨a.ab, 0, none⟩ (.int .i64 (a.left - k))) m xs := fun i hi hm hx =>
      (heap_setCell_other w1 ⟨a.ab, 0, none⟩ i _ (hx a ha).1).trans (hg1.block i hi (fun e => hm (by injection e)))
     have hbel2 : Below B w (w1.setCell ⟨a.ab, 0, none⟩ (.int .i64 (a.left - k))) := ((Below.refl B w).grown hg1 hB (fun j hj => by cases hj; exact h.mem.low.2.1)).setCell (h.acc a ha).low.1 _;have hsz2 : w.heap.size <= (w1.setCell ⟨a.ab, 0, none⟩ (.int .i64 (a.left - k))).heap.size := hbel2.size;have HFW := zI (h.held_few ha);have hn4 := h.few.2.2.1;clear hgc hown hp hints d0 d1 d2 c0 c1 c2;generalize w1.setCell ⟨a.ab, 0, none⟩ (.int .i64 (a.left - k)) = w2 at *;have hacc2 := hM2.acc _ (Jb7 ha);have hset2 : Jbf w2 a.hb a.held := hacc2.set;obtain ⟨d0, d1, d2⟩ := hacc2.cells;have d1' : w2.cell? ⟨a.ab, 1, none⟩ = some (.map (some a.hb)) := d1;clear d0 d1 d2 hacc2;go_loopw [49] (fun i wr => ∃ j : Nat, j <= O.length /\ i = .int .i64 j /\ Jbf wr a.hb (insAll a.held (O.take j)) /\ w2.grownBy wr (some a.hb)) (fun i _ => O.length - (intOf i).toNat)
     case atStart => exact ⟨0, Nat.zero_le _, rfl, hset2, World.grownBy.refl _ _⟩
     case round =>
      obtain ⟨j, hj, rfl, hset, hgr⟩ := hrel;have hown3 := hown2.kept hgr (.inr (fun e => by have := (hown2.lt _ e).1; omega));obtain ⟨A', c', hA, hints⟩ := own_ints hown3 (fun z hz => by have := HDL.out.fresh z hz; have := h.pool.rng; exact wf_i64 (by omega)) (by unfold maxLen; omega);obtain ⟨rfl, _, rfl⟩ := Value.slice.inj hA;by_cases hlt : j < O.length
      · obtain ⟨b, off, rfl, hb, hc⟩ := hints.get hlt
        have hwf := hints.wf _ (List.getElem_mem hlt);have hcell : wr.cell? ⟨a.ab, 1, none⟩ = some (.map (some a.hb)) := (World.cell?_of_block (a := ⟨a.ab, 1, none⟩) (hgr.block _ (by show a.ab < _; omega) (fun e => hne (by injection e)))).trans d1'
        have hlen : (insAll a.held (O.take j)).length <= 8192 := by
         have h1 := len_insAll_le (O.take j) a.held;have h2 := HFW.out;rw [List.length_take] at h1; omega
        have HN2 := zI (show insAll a.held (O.take (j + 1)) = ins O[j] (insAll a.held (O.take j)) from by rw [List.take_succ_eq_append_getElem hlt, Jge]);clear hints hown3 hA;go_wp2_with (at_mapUpdate; refine wpList_mapUpdate_own _ rfl _ _ _ 103 rfl 3 182 Jcf Tryz.underlying103 _ a.hb _ (setD (insAll a.held (O.take j))) rfl hset.own (by unfold maxLen; omega) _ _ _ rfl rfl (keyOf_int_mk Tryz.underlying3 hwf) _ [] unitElem_mk ?_; intro w3 hown4 hgrow4)
        rw [Jl7 _ _ hset.rising] at hown4;have hset4 : Jbf w3 a.hb (insAll a.held (O.take (j + 1))) := by rw [HN2.out]; exact Jbf.of_own hown4 (Jcg hset.rising)
        clear hown4;go_wp2;go_roundw
        case rel => exact ⟨j + 1, by omega, by go_num, hset4, Jap hgr hgrow4⟩
        case measure => simp [intOf]; omega
      · have hje : j = O.length := by omega
        have HT2 := zI (show O.take j = O from List.take_of_length_le (by omega));rw [HT2.out] at hset;have hM3 := hM2.heldTo (Jb7 ha) hset hgr;have hd : decide ((j : Int) < (O.length : Int)) = false := decide_eq_false (by omega);clear hje hints hA;go_wp2_with fail
        go_ret2;unfold Jfr;rw [HE.out, HO.out];have hS := Jnz (xs := xs) (nm := a.name) (F := Jd1 (a.left - k)) (G := Jd2 (insAll a.held O)) (fun _ => rfl);refine ⟨⟨_, _, rfl, hown3, ⟨hM3, ?_⟩, ?_, by rw [Jc1, Jc1], hbel2.grown hgr (Nat.le_trans hB hsz2) (fun j hj => by cases hj; exact (h.acc a ha).low.2), fun _ => ((Jau.refl _ _).toL _ _).toH _ _⟩, fun i hi hm hx => (hgr.block i (Nat.lt_of_lt_of_le hi hsz2) (fun e => (hx a ha).2 (by injection e))).trans (hkept2 i hi hm hx)⟩
        · show Ja1 n _ (setA (setA xs a.name (Jd1 (a.left - k))) a.name (Jd2 (insAll a.held O)))
          rw [hS];refine h.law.setTo h.apart (fun x hx y hy => h.mem.one hx hy) ha (fun _ => rfl) (by show 0 <= a.left - k; omega) ?_ (fun z => ?_) (fun z hz => ?_)
          · rw [length_insAll HDL.out.nodup (fun z hz => (HDL.out.fresh z hz).2.2)]
            show sumL xs - a.left + (a.left - k) + _ <= n;have := h.law.room; have := HDL.out.len; omega
          · show _ ↔ z ∈ insAll a.held O \/ _
            rw [mem_insAll, mem_insAll];have := h.sub ha z;by_cases hz : z ∈ a.held
            · simp [hz, this hz]
            · simp [hz]; exact Or.comm
          · rcases mem_insAll.1 (show z ∈ insAll a.held O from hz) with hz | hz
            · exact .inl hz
            · exact .inr (HDL.out.fresh z hz).2.2
        · show view (setA (setA xs a.name (Jd1 (a.left - k))) a.name (Jd2 (insAll a.held O))) = _
          rw [hS, if_pos rfl, <- HN.out];exact Jfq (fun x hx e => by rw [h.mem.one hx ha e]; rfl)
theorem Jzz {B g m mm : Nat} {f n : Int} {us : List Int} {xs : List Acc} (s : ByteArray) (k : Int) (w : World) (h : Jad w B g m mm f n us xs) (hs : s.size <= maxLen) (hk : -9223372036854775808 <= k /\ k <= 9223372036854775807) (hB : B <= w.heap.size) :
  Calls Tryz.prog 146 #[.pointer (some ⟨g, 0, none⟩), .string s, .int .i64 k] w fun e w' => Jfr B g m mm f n us xs s k w e w' /\ Chg (LedF m mm xs) w w' :=
 (Jvk s k w h hs hk hB).mono fun e w' ⟨h, hk⟩ => by
   refine ⟨h, ?_⟩;obtain ⟨_, _, _, _, _, _, _, hb, _⟩ := h;exact ⟨hb.os, hb.tape, hb.output, hb.size, fun b hlt hn => hk b hlt (fun e => hn (.inl e)) (fun a ha => ⟨fun e => hn (.inr (.inr ⟨a, ha, .inl e⟩)), fun e => hn (.inr (.inr ⟨a, ha, .inr e⟩))⟩)⟩
def Jgu (xs : List Acc) (nm : List UInt8) (zs : List Int) : List Int := match Ja4 xs nm with | none => [] | some a => (outAll a.held zs).2
def retV (O : List Int) (v : AV) : AV := (v.1, v.2.1 + O.length, v.2.2.filter fun x => decide (x ∉ O))
def lessU (us O : List Int) : List Int := us.filter fun x => decide (x ∉ O)
def Jhu (B g m mm : Nat) (f n : Int) (us : List Int) (xs : List Acc) (s : ByteArray) (zs : List Int) (w : World) (e : Ending) (w' : World) : Prop :=
 ∃ ys, e = .returned (.int .i64 (Jgu xs s.data.toList zs).length) /\ Jad w' B g m mm f n (lessU us (Jgu xs s.data.toList zs)) ys /\ view ys = setV (view xs) s.data.toList (retV (Jgu xs s.data.toList zs)) /\ ys.length = xs.length /\ Chg (LedF m mm xs) w w' /\ ∀ N, Jau N xs ys
theorem Jrl {us O : List Int} (hn : O.Nodup) (hs : ∀ z ∈ O, z ∈ us) : (Jbm us O).1 = lessU us O /\ (Jbm us O).2 = (O.length : Int) := by
 have := Ji7 (c := 0) hn hs;unfold Jbm;rw [this];exact ⟨rfl, by simp⟩
theorem Ji8 {us O : List Int} (hr : us.Nodup) (hn : O.Nodup) (hs : ∀ z ∈ O, z ∈ us) : (lessU us O).length + O.length = us.length := by
 have h1 := Je2 (fun x => decide (x ∉ O)) us
 have h2 : (us.filter fun x => !decide (x ∉ O)).Perm O := by
  rw [List.perm_iff_count];intro z;have hz1 := List.nodup_iff_count.1 (show (us.filter fun x => !decide (x ∉ O)).Nodup from List.Pairwise.filter _ hr) z;have hz2 := List.nodup_iff_count.1 hn z
  have hm : z ∈ (us.filter fun x => !decide (x ∉ O)) ↔ z ∈ O := by
   rw [List.mem_filter]; simp;exact fun h => hs z h
  by_cases hz : z ∈ O
  · have a1 := List.count_pos_iff.2 (hm.2 hz)
    have a2 := List.count_pos_iff.2 hz;omega
  · rw [List.count_eq_zero.2 hz, List.count_eq_zero.2 (fun h => hz (hm.1 h))]
 have h3 := h2.length_eq;unfold lessU;omega
theorem Jti {B g m mm : Nat} {f n : Int} {us : List Int} {xs : List Acc} (s : ByteArray) (A : Option Addr) (k c : Nat) (zs : List Int) (w : World) (h : Jad w B g m mm f n us xs) (hs : s.size <= maxLen) (hz : Ints w .i64 A k zs) (hk : k <= 1000000) (_hB : B <= w.heap.size) :
  Calls Tryz.prog 148 #[.pointer (some ⟨g, 0, none⟩), .string s, .slice A k c] w (Jhu B g m mm f n us xs s zs w) := by
 obtain ⟨nm, hnm⟩ : ∃ nm, nm = s.data.toList := ⟨_, rfl⟩;have HNM := zI hnm;clear hnm;cases hf : Ja4 xs s.data.toList with
 | none =>
   have HO := zI (show Jgu xs s.data.toList zs = [] from by unfold Jgu; rw [hf]);have HF := zI (show Jke (Ja4 xs s.data.toList) = .pointer none from by rw [hf]; rfl)
   have HV := zI (show setV (view xs) s.data.toList (retV []) = view xs from by
    have := Jhs hf;rw [<- Jfq (xs := xs) (nm := s.data.toList) (f := id) (F := retV []) (fun a ha e => absurd e (this a ha)), Jnv this])
   have HU := zI (show lessU us [] = us from List.filter_eq_self.2 (by simp));clear hf;go_enter Tryz.func148, Tryz.ntmps148;go_wp2_with (go_at_call 89; refine (Jb6 s _ h hs).mono ?_; rw [HF.out]; rintro e w1 ⟨rfl, rfl⟩)
   go_ret;unfold Jhu;rw [HO.out, HV.out, HU.out];exact ⟨xs, rfl, h, rfl, rfl, Chg.refl _ _, fun _ => Jau.refl _ _⟩
 | some a =>
   obtain ⟨ha, hn⟩ := Jbk hf;have HF := zI (show Jke (Ja4 xs s.data.toList) = .pointer (some ⟨a.ab, 0, none⟩) from by rw [hf]; rfl);obtain ⟨l1, l2⟩ := h.left_bd ha;have OL := Jn0 a.held zs;obtain ⟨O, hO⟩ : ∃ O, O = (outAll a.held zs).2 := ⟨_, rfl⟩;have HO := zI (show Jgu xs s.data.toList zs = O from by unfold Jgu; rw [hf, hO]);have HO2 := zI (show (outAll a.held zs).2 = O from hO.symm);have HO1 := zI (show (outAll a.held zs).1 = lessU a.held O from by rw [hO]; exact OL.left);have hnd : O.Nodup := by rw [hO]; exact OL.nodup
   have hsub : ∀ z ∈ O, z ∈ us := fun z hz => h.sub ha z (OL.sub z (by rw [<- hO]; exact hz)).1;have hsubH : ∀ z ∈ O, z ∈ a.held := fun z hz => (OL.sub z (by rw [<- hO]; exact hz)).1;have hG := Jrl hnd hsub;have HG1 := zI hG.1;have HG2 := zI hG.2;have HLn := zI (Ji8 h.pool.set.rising.nodup hnd hsub);have hOl : O.length <= 4096 := by have := HLn.out; have := h.few; omega
   have HN := zI hn;have HSub := zI hsub;have HSubH := zI hsubH;have hhb : a.hb < w.heap.size := (h.acc a ha).set.lt;have hab : a.ab < w.heap.size := lt_of_block (h.acc a ha).blk;have hne : a.ab ≠ a.hb := (h.acc a ha).ne (h.acc a ha);have hglt := h.pool.lt;clear hf hn hG hsub hsubH OL hO hnd;go_enter Tryz.func148, Tryz.ntmps148;go_wp2_with (go_at_call 89; refine (Jb6 s _ h hs).mono ?_; rw [HF.out]; rintro e w1 ⟨rfl, rfl⟩)
   have hD := h.bel ((Below.refl w.heap.size w).drew);have hzD := hz.below ((Below.refl w.heap.size w).drew)
   go_region_with (first
    | (go_at_call 219; refine (Jp2 B a A k c zs _ (hD.acc a ha) hzD hk).mono ?_; rintro e w2 ⟨v, rfl, hown, hset, hgr⟩
       rw [HO2.out] at hown;rw [HO1.out] at hset;obtain ⟨A2, c2, rfl, hints⟩ := own_ints hown (fun z hz => by have := h.pool.ins z (HSub.out z hz); have := h.pool.rng; exact wf_i64 (by omega)) (by unfold maxLen; omega);have hM2 := hD.mem.heldTo ha hset hgr)
    | (go_at_call 220; refine (Jrd g m f n us A2 _ c2 O _ hM2.pool hints).mono ?_; rintro e w3 ⟨rfl, hp3, hg3⟩
       rw [HG2.out];rw [HG1.out] at hp3;have hM3 := hM2.pooled hp3 hg3))
   obtain ⟨d0, d1, d2⟩ := (hM3.acc _ (Jb7 ha)).cells;have e0 : w3.cell? ⟨a.ab, 0, none⟩ = some (.int .i64 a.left) := d0;have e2 : w3.frozen? ⟨a.ab, 0, none⟩ = false := d2;have hchg3 : Chg (LedF m mm xs) w w3 := Jc0 (Jc0 (Chg.of_below (Below.refl w.heap.size w).drew) hgr (fun j hj => by cases hj; exact .inl (LedF.held ha))) hg3 (fun j hj => by cases hj; exact .inl (LedF.pool _ _ _));clear d0 d1 d2 hown hset hints hzD;go_wp2_with fail
   go_ret;unfold Jhu;rw [HO.out];have hS := Jnz (xs := xs) (nm := a.name) (F := Jd2 (lessU a.held O)) (G := Jd1 (a.left + O.length)) (fun _ => rfl);refine ⟨setA (setA xs a.name (Jd2 (lessU a.held O))) a.name (Jd1 (a.left + O.length)), rfl, ⟨hM3.left (Jb7 ha) _, ?_⟩, ?_, by rw [Jc1, Jc1], Jvi hchg3 _ (.inl (LedF.acc ha)), fun _ => ((Jau.refl _ _).toH _ _).toL _ _⟩
   · rw [hS]
     refine h.law.setTo h.apart (fun x hx y hy => h.mem.one hx hy) ha (fun _ => rfl) (by show 0 <= a.left + (O.length : Int); omega) ?_ (fun z => ?_) (fun z hz => ?_)
     · show sumL xs - a.left + (a.left + (O.length : Int)) + _ <= n
       have := h.law.room; have := HLn.out; omega
     · show z ∈ lessU us O ↔ z ∈ lessU a.held O \/ (z ∈ us /\ z ∉ a.held)
       unfold lessU;rw [List.mem_filter, List.mem_filter];have h1 := h.sub ha z;have h2 := HSubH.out z;simp only [decide_eq_true_eq];by_cases hz : z ∈ a.held
       · simp [hz, h1 hz]
       · simp [hz]; exact fun _ ho => hz (h2 ho)
     · exact .inl (List.mem_filter.1 (show z ∈ lessU a.held O from hz)).1
   · rw [hS, <- HN.out]
     exact Jfq (fun x hx e => by rw [h.mem.one hx ha e]; rfl)
def Jkt (vs : List AV) (nm : List UInt8) : List AV := vs.filter fun v => decide (v.1 ≠ nm)
def Jn2 (B g m mm : Nat) (f n : Int) (us : List Int) (xs : List Acc) (s : ByteArray) (w : World) (e : Ending) (w' : World) : Prop :=
 ∃ ys, e = .returned (.int .i64 (Je4 (Ja4 xs s.data.toList)).length) /\ Jad w' B g m mm f n (lessU us (Je4 (Ja4 xs s.data.toList))) ys /\ view ys = Jkt (view xs) s.data.toList /\ ys.length <= xs.length /\ Chg (LedF m mm xs) w w' /\ ∀ N, Jau N xs ys
theorem Jtj (xs : List Acc) (nm : List UInt8) : view (xs.filter fun a => decide (a.name ≠ nm)) = Jkt (view xs) nm := by
 unfold view Jkt;rw [List.filter_map]; rfl
theorem Jie {xs : List Acc} (h : ∀ a ∈ xs, 0 <= a.left) (nm : List UInt8) : 0 <= sumL (xs.filter fun a => decide (a.name ≠ nm)) /\ sumL (xs.filter fun a => decide (a.name ≠ nm)) <= sumL xs := Jf6 h _
theorem Jad.closed {w : World} {B g m mm : Nat} {f n : Int} {us : List Int} {xs : List Acc} (h : Jad w B g m mm f n us xs) (nm : List UInt8) : Ja1 n (lessU us (Je4 (Ja4 xs nm))) (xs.filter fun a => decide (a.name ≠ nm)) := by
 have sub : ∀ {a}, a ∈ (xs.filter fun a => decide (a.name ≠ nm)) -> a ∈ xs /\ a.name ≠ nm := fun h => by
  have := List.mem_filter.1 h;exact ⟨this.1, of_decide_eq_true this.2⟩
 have hl : (lessU us (Je4 (Ja4 xs nm))).length <= us.length := List.length_filter_le _ _;have hs := Jie h.pos nm;refine ⟨fun a ha => h.law.name a (sub ha).1, fun a ha => h.law.pos a (sub ha).1, by have := h.law.room; omega, fun z => ?_, fun a ha b hb => h.law.once a (sub ha).1 b (sub hb).1⟩;unfold lessU;rw [List.mem_filter, h.law.held z];simp only [decide_eq_true_eq];constructor
 · rintro ⟨⟨a, ha, hz⟩, hn⟩
   refine ⟨a, List.mem_filter.2 ⟨ha, decide_eq_true (fun e => hn ?_)⟩, hz⟩;rw [<- e, h.mem.find ha]; exact hz
 · rintro ⟨a, ha, hz⟩
   obtain ⟨h1, h2⟩ := sub ha;refine ⟨⟨a, h1, hz⟩, fun hn => ?_⟩;cases hf : Ja4 xs nm with
   | none => rw [hf] at hn; simp [Je4] at hn
   | some b =>
     rw [hf] at hn;obtain ⟨hb, e⟩ := Jbk hf;exact h2 (by rw [<- e]; exact h.law.once a h1 b hb z hz hn)
theorem Jvl {B g m mm : Nat} {f n : Int} {us : List Int} {xs : List Acc} (s : ByteArray) (w : World) (h : Jad w B g m mm f n us xs) (hs : s.size <= maxLen) (_hB : B <= w.heap.size) :
  Calls Tryz.prog 149 #[.pointer (some ⟨g, 0, none⟩), .string s] w (Jn2 B g m mm f n us xs s w) := by
 obtain ⟨O, hO⟩ : ∃ O, O = Je4 (Ja4 xs s.data.toList) := ⟨_, rfl⟩;have HO := zI (show Je4 (Ja4 xs s.data.toList) = O from hO.symm)
 have hOr : O.Nodup /\ ∀ z ∈ O, z ∈ us := by
  rw [hO];cases hf : Ja4 xs s.data.toList with
  | none => simp [Je4]
  | some a =>
    obtain ⟨ha, _⟩ := Jbk hf;exact ⟨(h.acc a ha).set.rising.nodup, h.sub ha⟩
 have hG := Jrl hOr.1 hOr.2;have HG1 := zI hG.1;have HG2 := zI hG.2;have HLn := zI (Ji8 h.pool.set.rising.nodup hOr.1 hOr.2);have hOl : O.length <= 4096 := by have := HLn.out; have := h.few; omega
 have HSub := zI hOr.2;have hglt := h.pool.lt;have hkey := WideMaps.keyOf_string_mk (P := Tryz.prog) Tryz.underlying9 hs;clear hG hOr hO;go_enter Tryz.func149, Tryz.ntmps149;go_wp2_with (go_at_call 161; refine (Jgs _ h).mono ?_; rintro e w1 ⟨rfl, rfl⟩)
 have hD := h.bel ((Below.refl w.heap.size w).drew)
 go_region_with (first
  | (go_at_call 43; refine (Jn1 s _ hD hs).mono ?_; rintro e w2 ⟨v, rfl, hown, hb2⟩
     rw [HO.out] at hown;obtain ⟨A2, c2, rfl, hints⟩ := own_ints hown (fun z hz => by have := h.pool.ins z (HSub.out z hz); have := h.pool.rng; exact wf_i64 (by omega)) (by unfold maxLen; omega);have hM2 := (hD.bel hb2).mem)
  | (go_at_call 220; refine (Jrd g m f n us A2 _ c2 O _ hM2.pool hints).mono ?_; rintro e w3 ⟨rfl, hp3, hg3⟩
     rw [HG2.out];rw [HG1.out] at hp3;have hM3 := hM2.pooled hp3 hg3))
 have c3 := hM3.c3;have hchg3 : Chg (LedF m mm xs) w w3 := Jc0 ((Chg.of_below (Below.refl w.heap.size w).drew).then_below hb2) hg3 (fun j hj => by cases hj; exact .inl (LedF.pool _ _ _));clear hown hints;go_wp2_with (at_delete; refine wpList_delete_own _ rfl _ _ 106 9 rfl 183 Jht Tryz.underlying106 _ mm _ (accD xs) rfl hM3.own _ _ rfl hkey ?_; intro w4 hown4 hturn4)
 rw [Jzp] at hown4;have hM4 := hM3.deleted s.data.toList hown4 hturn4.grown;have hg4 := hturn4.grown;clear hown4 hturn4;go_wp2_with fail
 go_ret;unfold Jn2;have hlaw := h.closed s.data.toList;rw [HO.out] at hlaw ⊢;exact ⟨_, rfl, ⟨hM4, hlaw⟩, Jtj _ _, List.length_filter_le _ _, Jc0 hchg3 hg4 (fun j hj => by cases hj; exact .inl (LedF.map _ _ _)), fun _ => (Jau.refl _ _).sub (fun z hz => (List.mem_filter.1 hz).1)⟩
end Go.Proofs.YtalkkhafcfhglaaGreatDoor.Led
