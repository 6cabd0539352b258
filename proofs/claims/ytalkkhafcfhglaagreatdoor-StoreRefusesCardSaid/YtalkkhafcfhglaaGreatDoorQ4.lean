/-
  Several texts in one: TableAdd, NameGrows, ShelfSort, TableSort, TableFind, TableDrop, RowsKP, RowsK, TableAll.
-/
import Derived.Sort.Grow
import Derived.Deep.Draws
import Derived.Shelf.SlSortCmp.NoneTotal
import Derived.Shelf.SlMaps.Clone
import Derived.Ground.SlsfProg
import Derived.Ground.SlmcProg
import Derived.Shelf.Abstract
import Derived.Sort.OwnSorted
import Derived.Maps.AppendAt
import Derived.Laws.OwnMore
import Derived.Test.YtalkkhafcfhglaaGreatDoorQ3
set_option maxRecDepth 100000
set_option maxHeartbeats 4000000
namespace Go.Proofs.YtalkkhafcfhglaaGreatDoor
open Go.RowKit Go.Maps
theorem Jq8 {ev : Int} {l : List Rc} {r : Rc} (h : Jas ev r = true) : addR ev l r = putR ⟨r.nm, r.st, Jbh [agAt l r.nm r.st, r.ag]⟩ l := by unfold addR; rw [if_pos h]
theorem J2o {ev : Int} {l : List Rc} {r : Rc} (h : Jas ev r = false) : addR ev l r = l := by unfold addR; rw [if_neg (by rw [h]; simp)]
theorem Jce {a b c : World} {row : Option Nat} (h : a.grownBy b row) (k : b.grownBy c none) : a.grownBy c row := h.andThen k (fun j hj => by cases hj)
theorem J2p {w : World} {a b : Ag} (ha : a.Ok) (hb : b.Ok) (T : TypeId) (g : Nat) (hg : g = w.heap.size) : Ags (w.alloc (.cells #[.int .i64 a.c, .int .i64 a.hi, .int .u64 a.lo, .int .i64 a.mn, .int .i64 a.mx, .int .i64 b.c, .int .i64 b.hi, .int .u64 b.lo, .int .i64 b.mn, .int .i64 b.mx] T)) (some ⟨g, 0, none⟩) 2 [a, b] :=
 ⟨Sl.new w T g _ _ hg (by simp [Ag.cells]), rfl, by decide, fun x hx => by
  rcases List.mem_cons.1 hx with rfl | hx
  · exact ha
  · rw [List.mem_singleton.1 hx]; exact hb⟩
theorem Jq9 {g mm : Nat} {ev : Int} {l rs : List Rc} {A : Option Addr} {n c : Nat} (w : World) (h : Jam w g mm ev l) (hr : Rcs w A n rs) (hev : -9223372036854775808 <= ev /\ ev <= 9223372036854775807) (hfew : l.length + n < 1000000) :
  Calls Tryz.prog 94 #[.pointer (some ⟨g, 0, none⟩), .slice A n c] w fun e w' => e = .returned (.int .i64 (addN ev rs)) /\ Jam w' g mm ev (addL ev l rs) /\ w.grownBy w' (some mm) := by
 have HL := zI hr.len;have HE := zI hev;clear hev;go_enter Tryz.func94, Tryz.ntmps94;go_wp2_with (go_at_call 164; refine (Jnm h).mono ?_; rintro e w1 ⟨rfl, rfl⟩)
 go_loopw [5, 13] (fun v i wr => ∃ j : Nat, j <= n /\ i = .int .i64 j /\ v = .int .i64 (addN ev (rs.take j)) /\ Jam wr g mm ev (addL ev l (rs.take j)) /\ w.grownBy wr (some mm)) (fun _ i _ => n - (intOf i).toNat)
 case atStart => exact ⟨0, Nat.zero_le _, rfl, rfl, h, World.grownBy.refl _ _⟩
 case round =>
  obtain ⟨j, hj, rfl, rfl, T, hgr⟩ := hrel;have hgl := T.lt;have hml := T.map.lt;by_cases hlt : j < n
  · have K : j < rs.length := by rw [HL.out]; exact hlt
    obtain ⟨b, off, rfl, hb, R⟩ := (hr.keep h.map hgr).get K;have HNM := zI (hr.nm _ (List.getElem_mem K));have HST := zI (hr.st _ (List.getElem_mem K));have HOK := zI (hr.ok _ (List.getElem_mem K));have HN := zI (show addL ev l (rs.take (j + 1)) = addR ev (addL ev l (rs.take j)) rs[j] from by rw [List.take_succ_eq_append_getElem K, Jno]);have HM := zI (show addN ev (rs.take (j + 1)) = addN ev (rs.take j) + (if Jas ev rs[j] = true then 1 else 0) from by rw [List.take_succ_eq_append_getElem K, Ju4])
    have HLEN := zI (show (addL ev l (rs.take j)).length < 1000000 from by
     have := Jih (ev := ev) (l := l) (rs := rs.take j);rw [List.length_take] at this; omega)
    have hq : addN ev (rs.take j) <= 1000000 := by
     have : addN ev (rs.take j) <= (rs.take j).length := List.countP_le_length;rw [List.length_take] at this; omega
    generalize rs[j]'K = x at *;generalize addL ev l (rs.take j) = k at *;generalize addN ev (rs.take j) = q at *;obtain ⟨r0, r1, r2, r3, r4, r5, r6⟩ := R;have g1 : wr.grownBy (wr.alloc (.cells #[.string x.nm, .int .i64 x.st, .int .i64 x.ag.c, .int .i64 x.ag.hi, .int .u64 x.ag.lo, .int .i64 x.ag.mn, .int .i64 x.ag.mx] 169)) none := World.grownBy_alloc _ _ _;have X1 := Jbu.new wr x;have T1 := T.grown g1 (by simp) (by simp);have hgr1 := Jce hgr g1;cases hx : Jas ev x
    · have HX := zI hx
      clear hx;go_wp2_with (go_at_call 165; refine (Jnp x _ T1.cells.1 HNM.out (Jkn HST.out) HE.out).mono ?_; rw [HX.out]; rintro e w2 ⟨rfl, hb2⟩)
      go_roundw
      case rel => exact ⟨j + 1, by omega, by go_num, by rw [HM.out, HX.out]; simp, by rw [HN.out, J2o HX.out]; exact T1.below hb2, Jce hgr1 (Jaa hb2 none)⟩
      case measure => simp [intOf]; omega
    · have HX := zI hx
      clear hx;have HF := zI (T1.map.fit x.nm x.st);have hsz := World.grownBy.size g1;have hwr : wr.heap.size < (wr.alloc (.cells #[.string x.nm, .int .i64 x.st, .int .i64 x.ag.c, .int .i64 x.ag.hi, .int .u64 x.ag.lo, .int .i64 x.ag.mn, .int .i64 x.ag.mx] 169)).heap.size := (by simp);clear hsz
      go_wp2_with (first
       | (go_at_call 165; refine (Jnp x _ T1.cells.1 HNM.out (Jkn HST.out) HE.out).mono ?_; rw [HX.out]; rintro e w2 ⟨rfl, hb2⟩
          have X2 := X1.keep (Jaa hb2 none) (by simp);have x0 := X2.c0;have x1 := X2.c1;have T2 := T1.below hb2;have hgr2 := Jce hgr1 (Jaa hb2 none);have hw2 : wr.heap.size < w2.heap.size := Nat.lt_of_lt_of_le hwr hb2.size;clear X1 T1 hgr1 hb2 r0 r1 r2 r3 r4 r5 r6))
      clear x0 x1 hwr;have hb3 : Below w2.heap.size w2 ((w2.alloc (.cells #[.string x.nm, .int .i64 x.st] 268)).drew) := ((Below.refl _ _).alloc (Nat.le_refl _) _).drew;have X3 := X2.keep (Jaa hb3 none) (by simp);have T3 := T2.below hb3;have hgr3 := Jce hgr2 (Jaa hb3 none);have p0 : ((w2.alloc (.cells #[.string x.nm, .int .i64 x.st] 268)).drew).cell? ⟨w2.heap.size, 0, none⟩ = some (.string x.nm) := cell_of_row (w2.alloc (.cells #[.string x.nm, .int .i64 x.st] 268)) _ 0 _ _ _ (heap_alloc_new w2 _);have p1 : ((w2.alloc (.cells #[.string x.nm, .int .i64 x.st] 268)).drew).cell? ⟨w2.heap.size, 1, none⟩ = some (.int .i64 x.st) := cell_of_row (w2.alloc (.cells #[.string x.nm, .int .i64 x.st] 268)) _ 1 _ _ _ (heap_alloc_new w2 _);have x2 := X3.c2;have x3 := X3.c3;have x4 := X3.c4;have x5 := X3.c5;have x6 := X3.c6;have t1 := T3.cells.2;have hlk := T3.map.look HNM.out HST.out;obtain ⟨z, hz⟩ : ∃ z, agAt k x.nm x.st = z := ⟨_, rfl⟩;rw [hz] at hlk;have HZ := zI hz;have hFZ := HF.out;rw [hz] at hFZ;have HFZ := zI hFZ;clear hz hFZ HF;obtain ⟨y, hy⟩ : ∃ y, Jbh [z, x.ag] = y := ⟨_, rfl⟩;have HY := zI hy
      have hXOK : Rc.Ok ⟨x.nm, x.st, y⟩ := ⟨HNM.out, HST.out, by
       rw [<- hy]
       exact Ag.Fit.merge (fun a ha => by
        rcases List.mem_cons.1 ha with rfl | ha
        · exact HFZ.out.ok
        · rw [List.mem_singleton.1 ha]; exact HOK.out)⟩
      have HXO := zI hXOK;clear hy;have hgm : g ≠ mm := T.ne;have hm2 := T2.map.lt;have hb4 : Below w2.heap.size w2 (((w2.alloc (.cells #[.string x.nm, .int .i64 x.st] 268)).alloc (.cells #[.int .i64 z.c, .int .i64 z.hi, .int .u64 z.lo, .int .i64 z.mn, .int .i64 z.mx, .int .i64 x.ag.c, .int .i64 x.ag.hi, .int .u64 x.ag.lo, .int .i64 x.ag.mn, .int .i64 x.ag.mx] 167)).drew) := (((Below.refl _ _).alloc (Nat.le_refl _) _).alloc (by simp) _).drew;have T4 := T2.below hb4;have hgr4 := Jce hgr2 (Jaa hb4 none);have HMC := Ju0 (some ⟨w2.heap.size + 1, 0, none⟩) 2 2 [z, x.ag] _ ((J2p (w := w2.alloc (.cells #[.string x.nm, .int .i64 x.st] 268)) HFZ.out.ok HOK.out 167 (w2.heap.size + 1) (by simp)).below ((Below.refl _ _).drew));rw [HY.out] at HMC;clear hXOK X2 T hb3 hb4 hgr3
      go_region_held3 (fun w' => w'.cell? ⟨g, 1, none⟩ = some (.map (some mm)) /\ w'.cell? ⟨w2.heap.size, 0, none⟩ = some (.string x.nm) /\ w'.cell? ⟨w2.heap.size, 1, none⟩ = some (.int .i64 x.st) /\ w'.cell? ⟨wr.heap.size, 0 + 2, none⟩ = some (.int .i64 x.ag.c) /\ w'.cell? ⟨wr.heap.size, 0 + 3, none⟩ = some (.int .i64 x.ag.hi) /\ w'.cell? ⟨wr.heap.size, 0 + 4, none⟩ = some (.int .u64 x.ag.lo) /\ w'.cell? ⟨wr.heap.size, 0 + 5, none⟩ = some (.int .i64 x.ag.mn) /\ w'.cell? ⟨wr.heap.size, 0 + 6, none⟩ = some (.int .i64 x.ag.mx))
       (first | (go_split_ands; refine ⟨?_, ?_, ?_, ?_, ?_, ?_, ?_, ?_⟩ <;> first | assumption | (refine World.grownBy.cell hg6 ?_ (by simp; omega); assumption) | (refine World.grownBy.cell hg5 ?_ (by simp); assumption) | (refine Je0 ?_; assumption)))
       (first
         | (go_at_call 166; refine HMC.mono ?_; rintro e w5 ⟨rfl, hb5⟩
            have hg5 := Jaa hb5 none;have T5 := T4.grown hg5 (by simp) (by simp);have hgr5 := Jce hgr4 hg5;obtain ⟨w6, hup0, M6, hg6⟩ := T5.map.store HXO.out HLEN.out;have hup : (Instr.mapUpdate 215 (.map (some mm)) (Jes x.nm x.st) y.val).run Tryz.prog w5 = .ok () w6 := hup0;clear hup0))
      go_wp2;go_roundw
      case rel => exact ⟨j + 1, by omega, by go_num, by rw [HM.out, HX.out]; simp, by rw [HN.out, Jq8 HX.out, HZ.out, HY.out]; exact T5.turned hg6 M6, hgr5.andThen hg6 (fun j hj => by cases hj; exact Or.inr rfl)⟩
      case measure => simp [intOf]; omega
  · have e1 := zI (show rs.take j = rs from List.take_of_length_le (by rw [HL.out]; omega))
    rw [e1.out] at T ⊢;go_wp2;go_ret;exact ⟨rfl, T, hgr⟩
end Go.Proofs.YtalkkhafcfhglaaGreatDoor
namespace Go.Proofs.YtalkkhafcfhglaaGreatDoor
open Go.RowKit Go.Sort
def Grew (w w' : World) : Prop := ∃ q os, w' = grow (w.drewN q) os
theorem Grew.refl (w : World) : Grew w w := ⟨0, #[], by simp [grow, World.drewN]⟩
theorem Grew.alloc {w w' : World} (h : Grew w w') (o : Obj) : Grew w (w'.alloc o) := by
 obtain ⟨q, os, rfl⟩ := h;exact ⟨q, os ++ #[o], by rw [alloc_eq_grow, grow_grow]⟩
theorem Grew.drew {w w' : World} (h : Grew w w') : Grew w w'.drew := by
 obtain ⟨q, os, rfl⟩ := h;exact ⟨q + 1, os, rfl⟩
theorem Jlz (a b : ByteArray) (x y : Int) (r s t u v r' s' t' u' v' : Value) (w : World) :
  Calls Tryz.prog 229 #[.agg #[.string a, .int .i64 x, r, s, t, u, v], .agg #[.string b, .int .i64 y, r', s', t', u', v']] w fun e w' => e = .returned (.int .i64 (cmpR a.toList x b.toList y)) /\ Grew w w' := by
 go_enter Tryz.func229, Tryz.ntmps229;go_wp2
 go_region_held3 (fun w' => w'.cell? ⟨w.heap.size, 0, none⟩ = some (.string a) /\ w'.cell? ⟨w.heap.size, 1, none⟩ = some (.int .i64 x) /\ w'.cell? ⟨w.heap.size + 1, 0, none⟩ = some (.string b) /\ w'.cell? ⟨w.heap.size + 1, 1, none⟩ = some (.int .i64 y))
  (first | assumption | (simp [go_sem, World.cell?_alloc_past]))
  (first
    | (go_at_call 271; refine (Jq5 _ _ _).mono ?_; rintro e w' ⟨rfl, rfl⟩)
    | (go_at_call 272; refine (Jq6 _ _ _).mono ?_; rintro e w' ⟨rfl, rfl⟩)
    | (go_at_call 270; refine (J10 (cmpS a.toList b.toList) (cmpI x y) _ _ (by simp [go_sem]) (by simp [go_sem])).mono ?_; rintro e w' ⟨rfl, rfl⟩))
 go_wp2;go_ret;exact ⟨rfl, by repeat (first | exact Grew.refl _ | refine Grew.drew ?_ | refine Grew.alloc ?_ _)⟩
end Go.Proofs.YtalkkhafcfhglaaGreatDoor
namespace Go.Proofs
open Go.Shelf
def Tryz.sortR_ren : Go.Shelf.Ren := ⟨fun | 6 => 228 | 15 => 225 | 14 => 269 | 28 => 267 | 29 => 268 | 20 => 290 | 21 => 291 | 22 => 292 | 23 => 293 | 24 => 294 | 25 => 295 | 26 => 296 | 27 => 297 | 46 => 313 | 47 => 285 | 48 => 286 | 49 => 314 | 50 => 315 | 57 => 325 | n => n, fun | 22 => 140 | 24 => 169 | 25 => 331 | 3 => 3 | 39 => 219 | 0 => 0 | 53 => 294 | 55 => 43 | 4 => 4 | 46 => 358 | 45 => 357 | 50 => 189 | 5 => 5 | 9 => 9 | 66 => 371 | 70 => 374 | 76 => 391 | 77 => 392 | n => n, fun | n => n⟩
theorem Tryz.sortR : Go.Proofs.SlLaysF0.n6 Tryz.prog Tryz.sortR_ren := {
 mixed := by kernel_rfl
 f6 := ⟨Tryz.f228.name, by decide, Tryz.func228.trans (congrArg some (by kernel_rfl))⟩
 f14 := ⟨Tryz.f269.name, by decide, Tryz.func269.trans (congrArg some (by kernel_rfl))⟩
 f15 := Tryz.func225.trans (congrArg some (by kernel_rfl))
 f20 := ⟨Tryz.f290.name, by decide, Tryz.func290.trans (congrArg some (by kernel_rfl))⟩
 f21 := ⟨Tryz.f291.name, by decide, Tryz.func291.trans (congrArg some (by kernel_rfl))⟩
 f22 := ⟨Tryz.f292.name, by decide, Tryz.func292.trans (congrArg some (by kernel_rfl))⟩
 f23 := ⟨Tryz.f293.name, by decide, Tryz.func293.trans (congrArg some (by kernel_rfl))⟩
 f24 := ⟨Tryz.f294.name, by decide, Tryz.func294.trans (congrArg some (by kernel_rfl))⟩
 f25 := ⟨Tryz.f295.name, by decide, Tryz.func295.trans (congrArg some (by kernel_rfl))⟩
 f26 := ⟨Tryz.f296.name, by decide, Tryz.func296.trans (congrArg some (by kernel_rfl))⟩
 f27 := ⟨Tryz.f297.name, by decide, Tryz.func297.trans (congrArg some (by kernel_rfl))⟩
 f28 := Tryz.func267.trans (congrArg some (by kernel_rfl))
 f29 := Tryz.func268.trans (congrArg some (by kernel_rfl))
 f46 := ⟨Tryz.f313.name, by decide, Tryz.func313.trans (congrArg some (by kernel_rfl))⟩
 f47 := Tryz.func285.trans (congrArg some (by kernel_rfl))
 f48 := Tryz.func286.trans (congrArg some (by kernel_rfl))
 f49 := ⟨Tryz.f314.name, by decide, Tryz.func314.trans (congrArg some (by kernel_rfl))⟩
 f50 := ⟨Tryz.f315.name, by decide, Tryz.func315.trans (congrArg some (by kernel_rfl))⟩
 f57 := ⟨Tryz.f325.name, by decide, Tryz.func325.trans (congrArg some (by kernel_rfl))⟩
 t0 := Tryz.underlying0
 a0 := Tryz.isAgg0
 z0 := Tryz.sizeOf0
 v0 := Tryz.zeroValue0
 t3 := Tryz.underlying3
 a3 := Tryz.isAgg3
 z3 := Tryz.sizeOf3
 v3 := Tryz.zeroValue3
 t4 := Tryz.underlying4
 a4 := Tryz.isAgg4
 z4 := Tryz.sizeOf4
 v4 := Tryz.zeroValue4
 t5 := Tryz.underlying5
 a5 := Tryz.isAgg5
 z5 := Tryz.sizeOf5
 v5 := Tryz.zeroValue5
 t9 := Tryz.underlying9
 a9 := Tryz.isAgg9
 z9 := Tryz.sizeOf9
 v9 := Tryz.zeroValue9
 t22 := Tryz.underlying140
 a22 := Tryz.isAgg140
 z22 := Tryz.sizeOf140
 v22 := Tryz.zeroValue140
 t25 := Tryz.underlying331
 a25 := Tryz.isAgg331
 z25 := Tryz.sizeOf331
 v25 := Tryz.zeroValue331
 t39 := Tryz.underlying219
 a39 := Tryz.isAgg219
 z39 := Tryz.sizeOf219
 v39 := Tryz.zeroValue219
 t45 := Tryz.underlying357
 a45 := Tryz.isAgg357
 z45 := Tryz.sizeOf357
 v45 := Tryz.zeroValue357
 t46 := Tryz.underlying358
 a46 := Tryz.isAgg358
 z46 := Tryz.sizeOf358
 v46 := Tryz.zeroValue358
 t50 := Tryz.underlying189
 a50 := Tryz.isAgg189
 z50 := Tryz.sizeOf189
 v50 := Tryz.zeroValue189
 t53 := Tryz.underlying294
 a53 := Tryz.isAgg294
 z53 := Tryz.sizeOf294
 v53 := Tryz.zeroValue294
 t55 := Tryz.underlying43
 a55 := Tryz.isAgg43
 z55 := Tryz.sizeOf43
 v55 := Tryz.zeroValue43
 t66 := Tryz.underlying371
 a66 := Tryz.isAgg371
 z66 := Tryz.sizeOf371
 v66 := Tryz.zeroValue371
 t70 := Tryz.underlying374
 a70 := Tryz.isAgg374
 z70 := Tryz.sizeOf374
 v70 := Tryz.zeroValue374
 t76 := Tryz.underlying391
 a76 := Tryz.isAgg391
 z76 := Tryz.sizeOf391
 v76 := Tryz.zeroValue391
 t77 := Tryz.underlying392
 a77 := Tryz.isAgg392
 z77 := Tryz.sizeOf392
 v77 := Tryz.zeroValue392 }
end Go.Proofs
namespace Go.Proofs.YtalkkhafcfhglaaGreatDoor
open Go.RowKit Go.Maps Go.Sort Go.Shelf
instance : Inhabited Rc := ⟨⟨default, 0, Ag.zero⟩⟩
def Js9 (r s : Rc) : Int := cmpR r.nm.toList r.st s.nm.toList s.st
theorem Jl0 (r s : Rc) : ltOf Js9 r s = Jc7 r.nm.toList r.st s.nm.toList s.st := rfl
theorem J4q : SWO (ltOf Js9) where
 irrefl x := by rw [Jl0]; exact Jlw _ _
 trans x y z h1 h2 := by rw [Jl0] at *; exact Jh6 h1 h2
 ntrans x y z h1 h2 := by
  rw [Jl0] at *;cases h3 : Jc7 x.nm.toList x.st z.nm.toList z.st
  · rfl
  · cases h4 : Jc7 z.nm.toList z.st y.nm.toList y.st
    · cases h5 : Jc7 y.nm.toList y.st z.nm.toList z.st
      · obtain ⟨e1, e2⟩ := Jnk h4 h5
        rw [e1, e2, h1] at h3; cases h3
      · rw [h2] at h5; cases h5
    · have := Jh6 h3 h4
      rw [h1] at this; cases this
theorem Jze (blk off size : Nat) (w : World) : CmpLays Tryz.prog 229 #[] Rc.cells 7 Js9 blk off size w := fun _ _ _ _ x y =>
 (Jlz x.nm y.nm x.st y.st _ _ _ _ _ _ _ _ _ _ _).mono fun _ _ ⟨h1, h2⟩ => ⟨h1, h2⟩
theorem Jnq (x : Rc) : ∀ v ∈ x.cells, v.oneCell' = true := by
 intro v hv;simp [Rc.cells, Ag.cells] at hv;rcases hv with rfl | rfl | rfl | rfl | rfl | rfl | rfl <;> rfl
theorem Jzf (blk off cap : Nat) (d : Array Rc) (w : World) (hH : HoldsK Rc.cells 7 w blk off d) (hblk : blk < w.heap.size) (hsz : d.size < 4611686018427387904) :
  Calls Tryz.prog 228 #[.slice (some ⟨blk, off, none⟩) d.size cap, .func (.func 229) #[] #[]] w fun e w' => e = .returned (.tuple #[]) /\ ∃ d' n os, PermIn 0 d.size d d' /\ SortedIn (ltOf Js9) 0 d.size d' /\ w' = sortWorldK Rc.cells 7 w blk off n d' os :=
 AnyQ.slices_SortFunc Tryz.sortR 7 Tryz.isAgg169 Tryz.sizeOf169 Rc.cells (fun _ => rfl) Jnq Js9 J4q 229 #[] blk off cap d w (enters_of Tryz.func229 (by kernel_rfl) rfl) (Jze blk off d.size w) hH hblk hsz
end Go.Proofs.YtalkkhafcfhglaaGreatDoor
namespace Go.Proofs.YtalkkhafcfhglaaGreatDoor
open Go.RowKit Go.Maps
theorem Ju5 (key : Value) (kl : Lit) (h : keyOf Tryz.prog 268 key = some kl) : ∃ x : ByteArray × Int, key = Jes x.1 x.2 := by
 obtain ⟨s, n, rfl, _⟩ := Ju2 h;exact ⟨(s, n), rfl⟩
theorem J4r (v : Value) (y : DataW Unit × List MemPlace) (h : Jez v = some y) : ∃ a : Ag, v = a.val := by
 obtain ⟨a, rfl, _⟩ := Jhp h;exact ⟨a, rfl⟩
end Go.Proofs.YtalkkhafcfhglaaGreatDoor
namespace Go.Proofs.YtalkkhafcfhglaaGreatDoor
open Go.RowKit
section
variable {α : Type} [Inhabited α] {cs : α -> List Value} {k : Nat}
omit [Inhabited α] in
theorem Jfn (hk : ∀ x, (cs x).length = k) : ∀ l : List α, (l.flatMap cs).length = l.length * k
 | [] => by simp
 | a :: r => by rw [List.flatMap_cons, List.length_append, hk, Jfn hk r, List.length_cons, Nat.add_mul]; omega
omit [Inhabited α] in
theorem Jii (hk : ∀ x, (cs x).length = k) (l : List α) (j : Nat) (hj : j < l.length) (q : Nat) (hq : q < k) : (l.flatMap cs)[j * k + q]? = (cs l[j])[q]? := by
 induction l generalizing j with
 | nil => simp at hj
 | cons a r ih =>
   rw [List.flatMap_cons];cases j with
   | zero =>
     rw [List.getElem?_append_left (by rw [hk]; omega)]; simp
   | succ j =>
     have e : (j + 1) * k + q = k + (j * k + q) := by rw [Nat.add_mul]; omega
     rw [List.getElem?_append_right (by rw [hk]; omega), hk, e, Nat.add_sub_cancel_left, ih j (by simp at hj; omega)]; rfl
end
open Go.Shelf Go.Sort
section
variable {α : Type} [Inhabited α] {cs : α -> List Value} {k : Nat}
theorem Jkp (hk : ∀ x, (cs x).length = k) (l : List α) : (flatK cs k l.toArray).toList = l.flatMap cs := by
 apply List.ext_getElem?;intro t;by_cases ht : t < l.length * k
 · have k0 : 0 < k := by rcases Nat.eq_zero_or_pos k with h | h
                         · subst h; simp at ht
                         · exact h
   have hj : t / k < l.length := by rw [Nat.div_lt_iff_lt_mul k0]; exact ht
   have hq : t % k < k := Nat.mod_lt _ k0;have e := Jii hk l (t / k) hj (t % k) hq;rw [Nat.div_add_mod' t k] at e;rw [e, Array.getElem?_toList];have h1 := get_flatK cs k l.toArray t (by simpa using ht);have h2 : t < (flatK cs k l.toArray).size := by simpa using ht
   rw [Array.getElem?_eq_getElem h2, <- getElem!_pos _ t h2, h1];have h3 : l.toArray[t / k]! = l[t / k] := by simp [hj]
   rw [h3, getElem!_pos _ _ (by rw [hk]; exact hq), List.getElem?_eq_getElem (by rw [hk]; exact hq)]
 · have h2 : (l.flatMap cs).length <= t := by rw [Jfn hk]; omega
   rw [List.getElem?_eq_none (by simpa using ht), List.getElem?_eq_none h2]
theorem Jl1 (F cur : Array Value) (h : F.size <= cur.size) : (putCells id 0 F cur).toList.take F.size = F.toList := by
 apply List.ext_getElem?;intro j;by_cases hj : j < F.size
 · rw [List.getElem?_take_of_lt hj, Array.getElem?_toList]
   simp [putCells, hj, show j < cur.size by omega]
 · rw [List.getElem?_take_eq_none (by omega), List.getElem?_eq_none (by simp; omega)]
theorem Jnr {w : World} {g n : Nat} {os : Array Obj} {cur : Array Value} {e : TypeId} {fr : Nat × Nat} (d : Array α) (hb : w.heap[g]? = some (.cells cur e fr)) :
  (sortWorldK cs k w g 0 n d os).heap[g]? = some (.cells (putCells id 0 (flatK cs k d) cur) e fr) := by
 have hg : g < w.heap.size := (Array.getElem?_eq_some_iff.1 hb).1;unfold sortWorldK putRowK;rw [heap_grow_old _ _ (by simpa using hg)];simp [putRow, mapBlock, Sort.ahead, Array.getElem?_modify, hb, onCells]
theorem Jiw {w : World} {g n : Nat} {os : Array Obj} (d : Array α) : w.grownBy (sortWorldK cs k w g 0 n d os) (some g) := by
 unfold sortWorldK putRowK;refine ⟨rfl, rfl, rfl, by simp, fun j hj hne => ?_⟩;rw [heap_grow_old _ _ (by simpa using hj)];have : g ≠ j := fun e => hne (by rw [e]);simp [putRow, mapBlock, Sort.ahead, Array.getElem?_modify, this]
theorem Jix (hk : ∀ x, (cs x).length = k) {w : World} {g : Nat} {cur : Array Value} {e : TypeId} {l : List α} (hb : w.heap[g]? = some (.cells cur e (0, 0))) (ht : cur.toList.take (l.length * k) = l.flatMap cs) : HoldsK cs k w g 0 l.toArray := by
 intro j hj;have hj' : j < l.length * k := by simpa using hj
 refine ⟨?_, by simp [World.frozen?, hb]⟩;have h1 : (cur.toList.take (l.length * k))[j]? = (flatK cs k l.toArray).toList[j]? := by rw [ht, Jkp hk]
 rw [List.getElem?_take_of_lt hj', Array.getElem?_toList, Array.getElem?_toList] at h1;simp only [World.cell?, hb, Nat.zero_add];simp only [Option.isSome_none, Bool.false_eq_true, if_false];rw [h1, Array.getElem?_eq_getElem hj, <- getElem!_pos _ j hj];rfl
theorem Jiy (hk : ∀ x, (cs x).length = k) {w : World} {base g cap n m : Nat} {e : TypeId} {os : Array Obj} {cur : Array Value} {l : List α} (hl : l.length = m) (hbase : base <= g) (hb : w.heap[g]? = some (.cells cur e (0, 0)))
  (h1 : m <= cap) (h2 : cap <= maxLen) (h3 : cur.size = cap * k) :
  (sortWorldK cs k w g 0 n l.toArray os).ownsRow base e k (.slice (some ⟨g, 0, none⟩) m cap) m (l.flatMap cs) :=
 ⟨by rw [Jfn hk, hl], .inr ⟨g, cap, _, rfl, hbase, Jnr _ hb, h1, h2, by simp [putCells, h3], by
  have := Jl1 (flatK cs k l.toArray) cur (by rw [size_flatK, h3]; simp; rw [hl]; exact Nat.mul_le_mul_right _ h1);rw [size_flatK] at this;simp only [List.size_toArray, hl] at this;rw [this, Jkp hk]⟩⟩
end
end Go.Proofs.YtalkkhafcfhglaaGreatDoor
namespace Go.Proofs.YtalkkhafcfhglaaGreatDoor
open Go.RowKit Go.Maps Go.Shelf
theorem Ju6 (r : Rc) : r.cells.length = 7 := rfl
theorem Jzg : (Tryz.prog.info? 169).map (fun i => (i.zero, i.size, i.bytes)) = some (some (.agg #[.string ByteArray.empty, .int .i64 0, .int .i64 0, .int .i64 0, .int .u64 0, .int .i64 0, .int .i64 0]), 7, 64) := by kernel_rfl
theorem Ju7 (w : World) (cs : Array Value) (T : TypeId) : ∀ j u, cs.toList[j]? = some u -> (w.alloc (.cells cs T)).cell? ((⟨w.heap.size, 0, none⟩ : Addr).add j) = some u := by
 intro j u h;rw [Addr.add_lit, Nat.zero_add, cell_of_row _ _ j _ _ _ (heap_alloc_new w _)]
 simpa using h
def came (l : List Rc) (left : Lit -> Bool) : List Rc := l.filter fun r => !left (klit r.nm r.st)
theorem Jta {D : DataW Unit} {l : List Rc} (h : Rep D l) : came l (Maps.has D) = [] := by
 unfold came;rw [List.filter_eq_nil_iff];intro r hr;rw [h.has (h.ok r hr).nm (h.ok r hr).st];simp only [Bool.not_eq_true', Bool.not_eq_false];unfold Jid;rw [List.find?_isSome];exact ⟨r, hr, by simp⟩
theorem Jzh {l : List Rc} {left : Lit -> Bool} (h : ∀ kl, left kl = false) : came l left = l := by
 unfold came;exact List.filter_eq_self.2 (fun r _ => by rw [h]; rfl)
theorem Ju8 {D : DataW Unit} {l : List Rc} (h : Rep D l) {left : Lit -> Bool} {r0 : Rc} (hr : r0 ∈ l) (hl : left (klit r0.nm r0.st) = true) : (came l fun z => left z && !z.sameKey (klit r0.nm r0.st)).Perm (r0 :: came l left) := by
 obtain ⟨a, b, rfl⟩ := List.append_of_mem hr;have hord := h.ord;rw [List.pairwise_append, List.pairwise_cons] at hord;obtain ⟨_, ⟨hb, _⟩, hab⟩ := hord
 have hne : ∀ x ∈ a ++ r0 :: b, x.same r0 = false -> (left (klit x.nm x.st) && !(klit x.nm x.st).sameKey (klit r0.nm r0.st)) = left (klit x.nm x.st) := by
  intro x hx hs
  have : (klit x.nm x.st).sameKey (klit r0.nm r0.st) = false := by
   cases hk : (klit x.nm x.st).sameKey (klit r0.nm r0.st)
   · rfl
   · have e := (Jfm (h.ok x hx) (h.ok r0 hr).nm (h.ok r0 hr).st).1 (Jgp.1 hk)
     rw [Rc.same_iff.2 e] at hs; cases hs
  rw [this]; simp
 have e1 : came a (fun z => left z && !z.sameKey (klit r0.nm r0.st)) = came a left := by
  unfold came;apply List.filter_congr;intro x hx;exact congrArg Bool.not (hne x (by simp [hx]) (Rc.lt_not_same (hab x hx r0 (by simp))))
 have e2 : came b (fun z => left z && !z.sameKey (klit r0.nm r0.st)) = came b left := by
  unfold came;apply List.filter_congr;intro x hx;exact congrArg Bool.not (hne x (by simp [hx]) (by rw [Rc.same_symm]; exact Rc.lt_not_same (hb x hx)))
 have e3 : (klit r0.nm r0.st).sameKey (klit r0.nm r0.st) = true := Jgp.2 rfl;unfold came at *;rw [List.filter_append, List.filter_append, List.filter_cons, List.filter_cons, e1, e2, if_pos (by show (!(left _ && !(klit r0.nm r0.st).sameKey (klit r0.nm r0.st))) = true; rw [e3]; simp), if_neg (by rw [hl]; simp)];exact List.perm_middle
theorem Ju9 {l xs : List Rc} {d' : Array Rc} (hl : l.Pairwise Rc.lt) (hx : xs.Perm l) (hp : Go.Sort.PermIn 0 xs.toArray.size xs.toArray d') (hs : Go.Sort.SortedIn (ltOf Js9) 0 xs.toArray.size d') : d'.toList = l := by
 obtain ⟨hsz, _, hperm⟩ := hp;have e1 : d'.extract 0 xs.toArray.size = d' := by rw [<- hsz]; exact Array.extract_size
 rw [e1, Array.extract_size] at hperm;have hpl : d'.toList.Perm l := hperm.trans hx;have hap : l.Pairwise (fun r s => r.same s = false) := hl.imp Rc.lt_not_same;have hap' : d'.toList.Pairwise (fun r s => r.same s = false) := (hpl.pairwise_iff (fun {r s} h => by rw [Rc.same_symm]; exact h)).2 hap;refine Jpv ?_ hl hpl;rw [List.pairwise_iff_getElem] at hap' ⊢;intro i j hi hj hij;have h1 := hap' i j hi hj hij;have h2 := hs i j (Nat.zero_le _) hij (by rw [<- hsz]; simpa using hj);simp at hi hj;rw [getElem!_pos d' i hi, getElem!_pos d' j hj, Jl0] at h2;simp only [Array.getElem_toList] at h1 ⊢;refine Rc.total ?_ (by rw [Rc.same_symm]; exact h1);intro h3;unfold Rc.lt at h3;rw [(Jb1 _ _ _ _).2 h3] at h2;cases h2
theorem Jva (p : Option Addr) (cap : Nat) (w : World) :
  Calls Tryz.prog 228 #[.slice p 0 cap, .func (.func 229) #[] #[]] w fun e w' => e = .returned (.tuple #[]) /\ w' = w :=
 AnyF.slices_SortFunc_none Tryz.sortR p cap _ w
theorem Jzi {w : World} {base : Nat} {v : Value} {l xs : List Rc} (h : w.ownsRow base 169 7 v xs.length (xs.flatMap Rc.cells)) (hl : l.Pairwise Rc.lt) (hx : xs.Perm l) (hfew : xs.length < 1000000) :
  Calls Tryz.prog 228 #[v, .func (.func 229) #[] #[]] w fun e w' => e = .returned (.tuple #[]) /\ w'.ownsRow base 169 7 v l.length (l.flatMap Rc.cells) /\ w.grownBy w' v.ownBlock := by
 have hln : l.length = xs.length := hx.length_eq.symm;rcases h.2 with ⟨rfl, h0⟩ | ⟨g, cap, cur, rfl, hg, hb, hc, hcm, hcs, ht⟩
 · refine (Jva none 0 w).mono ?_
   rintro e w' ⟨rfl, rfl⟩;have e1 : xs = [] := List.eq_nil_of_length_eq_zero h0;subst e1;have e2 : l = [] := List.eq_nil_of_length_eq_zero hln;subst e2;exact ⟨rfl, h, World.grownBy.refl _ _⟩
 · have hH := Jix (cs := Rc.cells) (k := 7) Ju6 hb ht
   have hS := Jzf g 0 cap xs.toArray w hH (lt_of_block hb) (by simp; omega);rw [List.size_toArray] at hS;refine hS.mono ?_;rintro e w' ⟨rfl, d', n, os, hp, hs, rfl⟩;have e1 := Ju9 hl hx hp hs;have e2 : d' = l.toArray := by rw [<- e1]
   subst e2;rw [hln];exact ⟨rfl, Jiy Ju6 hln hg hb hc hcm hcs, Jiw _⟩
theorem Jzj {w : World} {B B' : Nat} {e : TypeId} {k n : Nat} {v : Value} {xs : List Value} (h : w.ownsRow B e k v n xs) (hb : B' <= B) : w.ownsRow B' e k v n xs :=
 ⟨h.1, h.2.imp id fun ⟨g, cap, cur, a, b, c⟩ => ⟨g, cap, cur, a, Nat.le_trans hb b, c⟩⟩
theorem Jvb {w : World} {B : Nat} {e : TypeId} {k n : Nat} {v : Value} {xs : List Value} (h : w.ownsRow (B + 1) e k v n xs) : v.ownBlock = none \/ v.ownBlock ≠ some B := by
 by_cases e : v.ownBlock = none
 · exact .inl e
 · exact .inr (fun e2 => by have := (h.lt _ e2).1; omega)
theorem J11 {w : World} {B b : Nat} {e : TypeId} {k n : Nat} {v : Value} {xs : List Value} (h : w.ownsRow B e k v n xs) (hb : b < B) : some b ≠ v.ownBlock := fun e2 => by have := (h.lt _ e2.symm).1; omega
theorem Jtb {r : Rc} : ∀ v ∈ r.cells, v.oneCell' = true := Jnq r
theorem Jra {w : World} {g mm : Nat} {ev : Int} {l : List Rc} (h : Jam w g mm ev l) (hfew : l.length < 1000000) :
  Calls Tryz.prog 169 #[.pointer (some ⟨g, 0, none⟩)] w fun e w' => ∃ v, e = .returned v /\ w'.ownsRow w.heap.size 169 7 v l.length (l.flatMap Rc.cells) /\ Below w.heap.size w w' := by
 obtain ⟨c0, c1⟩ := h.cells;obtain ⟨i0, hi, hz0, hz1, hz2⟩ := info_parts Jzg;obtain ⟨D, hown, hrep⟩ := h.map.own;have hml := hown.lt;go_enter Tryz.func169, Tryz.ntmps169
 go_wp2_with (first
  | (go_at_call 164; refine (Jnm h).mono ?_; rintro e w1 ⟨rfl, rfl⟩)
  | (at_range; refine wpList_range_own _ rfl _ 215 rfl 268 167 Jdw Tryz.underlying215 Jez mm l.length _ rfl hown ?_; intro w0 hrg0 hg0 hs0))
 go_frame
 go_loopw [3] (fun v wr => ∃ (left : Lit -> Bool) (cnt : Nat) (xs : List Rc), wr.ranges Tryz.prog 268 Jez mm w.heap.size l.length D left cnt /\ xs.Perm (came l left) /\ wr.ownsRow (w.heap.size + 1) 169 7 v xs.length (xs.flatMap Rc.cells) /\ Below w.heap.size w wr)
  (fun _ wr => wr.rangeLeft mm w.heap.size)
 case atStart => exact ⟨_, _, [], hrg0, by rw [Jta hrep], World.ownsRow_nil _ _ _ _, (Below.refl _ _).grown hg0 (Nat.le_refl _) (fun k hk => by cases hk)⟩
 case round =>
  obtain ⟨left, cnt, xs, hrg, hperm, hrow, hbel⟩ := hrel;have hxl : xs.length <= l.length := by rw [hperm.length_eq]; exact List.length_filter_le _ _
  go_wp2_with (at_next; refine wpList_next_ranges _ rfl _ rfl 268 Jdw Jez (fun x : ByteArray × Int => Jes x.1 x.2) Ag.val Ju5 J4r mm w.heap.size l.length _ _ _ rfl hrg ?_ ?_)
  · intro _ hl0
    rw [Jzh hl0] at hperm;have hS := Jzi hrow hrep.ord hperm (by omega);have hvk2 := hrow.lt;clear hrg hl0 hrow;go_wp2_with fail
    refine hS.mono ?_;rintro e w2 ⟨rfl, hrow2, hg2⟩;go_wp2;go_ret;exact ⟨_, rfl, Jzj hrow2 (by omega), hbel.grown hg2 hbel.size (fun k hk => by have := (hvk2 k hk).1; omega)⟩
  · intro s m c kl d ps w1 cnt1 hkey hlx hv hat hrg1 hlt hg1 hs1 hen
    obtain ⟨r0, hr0, e1, rfl, e2⟩ := hrep.next hkey hv hat;have e3 : s = r0.nm /\ m = r0.st := (by simpa [Jes] using e1);obtain ⟨rfl, rfl⟩ := e3
    obtain rfl : c = r0.ag := by
     obtain ⟨a1, a2, a3, a4, a5⟩ := c;cases hc : r0.ag
     rw [hc] at e2
     simpa [Ag.val] using e2
    clear e1 e2;have Jkd := Ju8 hrep hr0 hlx;have hrow1 := hrow.kept hg1 (Jvb hrow);have hlt1 := hrg1.lt;have hbel1 := hbel.grown hg1 hbel.size (fun k hk => by cases hk; exact Nat.le_refl _);have HSZ := zI hs1;have HST := zI Jkd;have HPM := zI hperm;have HLT := zI hlt;have HRG := zI hrg;have hfit : xs.length + 1 <= maxLen /\ (xs.length + 1) * 64 <= 140737488355328 := by unfold maxLen; omega
    have hn := Ju7 ((w1.alloc (.cells #[.string r0.nm, .int .i64 r0.st] 268)).alloc (.cells #[.int .i64 r0.ag.c, .int .i64 r0.ag.hi, .int .u64 r0.ag.lo, .int .i64 r0.ag.mn, .int .i64 r0.ag.mx] 167)) #[.string r0.nm, .int .i64 r0.st, .int .i64 r0.ag.c, .int .i64 r0.ag.hi, .int .u64 r0.ag.lo, .int .i64 r0.ag.mn, .int .i64 r0.ag.mx] 169;rw [show ((w1.alloc (.cells #[.string r0.nm, .int .i64 r0.st] 268)).alloc (.cells #[.int .i64 r0.ag.c, .int .i64 r0.ag.hi, .int .u64 r0.ag.lo, .int .i64 r0.ag.mn, .int .i64 r0.ag.mx] 167)).heap.size = w1.heap.size + 1 + 1 from by simp] at hn;have HN := zI hn;clear hs1 Jkd hperm hlt hn hrg;go_wp2_with (at_builtin; refine wpList_append_own _ rfl _ _ 140 rfl (w.heap.size + 1) 169 i0 _ 7 64 Tryz.underlying140 hi hz0 hz1 hz2 rfl (by decide) _ _ _ rfl (((hrow1.alloc _).alloc _).alloc _) ⟨w1.heap.size + 1 + 1, 0, none⟩ 1 1 r0.cells rfl rfl HN.out Jtb hfit.1 hfit.2 ?c5 ?_; (simp; omega); intro v' w4 hown4 hgrow4 _)
    have hrg4 := (((hrg1.alloc (.cells #[.string r0.nm, .int .i64 r0.st] 268)).alloc (.cells #[.int .i64 r0.ag.c, .int .i64 r0.ag.hi, .int .u64 r0.ag.lo, .int .i64 r0.ag.mn, .int .i64 r0.ag.mx] 167)).alloc (.cells #[.string r0.nm, .int .i64 r0.st, .int .i64 r0.ag.c, .int .i64 r0.ag.hi, .int .u64 r0.ag.lo, .int .i64 r0.ag.mn, .int .i64 r0.ag.mx] 169)).kept hgrow4 (J11 hrow (by omega)) (J11 hrow (by omega));go_roundw
    case rel => exact ⟨_, cnt1, xs ++ [r0], hrg4, (List.perm_append_comm.trans (HPM.out.cons r0)).trans HST.out.symm, by simpa using hown4, (((hbel1.alloc hbel1.size _).alloc (by have := hbel1.size; simp; omega) _).alloc (by have := hbel1.size; simp; omega) _).grown hgrow4 (by have := hbel1.size; simp; omega) (fun k hk => by have := (hrow.lt k hk).1; omega)⟩
    case measure => rw [hrg4.left_eq, HRG.out.left_eq]; exact HLT.out
end Go.Proofs.YtalkkhafcfhglaaGreatDoor
