/-
  Several texts in one: Sets, Pool, PoolTake, PoolTake2, PoolGive, ShelfL, PoolUsed.
-/
import Derived.Maps.OwnSet
import Derived.Maps.OwnOps
import Derived.Shelf.Strings.Builder1
import Derived.Shelf.Strings.Builder2
import Derived.Shelf.Strings.OnBuilder
import Derived.Shelf.Strings.Trim
import Derived.Shelf.Small.Utf8
import Derived.Shelf.Small.Bits
import Derived.Shelf.Small.Strs
import Derived.Shelf.Small.Wraps
import Derived.Shelf.Strings.BuilderF
import Derived.Shelf.Utf8.RuneCount
import Derived.Shelf.Strings.Builder2Cap
import Derived.Shelf.Strconv.Itoa0
import Derived.Shelf.Strconv.Itoa1
import Derived.Shelf.LaysM
import Derived.Shelf.Strconv.Itoa2
import Derived.Shelf.Strconv.Itoa3
import Derived.Shelf.Strconv.Clone
import Derived.Shelf.Strings.Search1
import Derived.Shelf.Strings.Search2
import Derived.Shelf.Strings.Search3
import Derived.Shelf.Strings.Count
import Derived.Shelf.Strings.Shaped
import Derived.Shelf.Sort.Plain
import Derived.Shelf.Strings.Prefix
import Derived.Shelf.Strings.Split
import Derived.Shelf.Strings.SplitShaped
import Derived.Shelf.Unicode.Decode
import Derived.Shelf.Strings.Runes
import Derived.Shelf.Strings.RuneCount
import Derived.Shelf.Strings.AsciiSet
import Derived.Shelf.Strings.Explode
import Derived.Shelf.Bits.Mul64
import Derived.Shelf.Strings.Repeat
import Derived.Shelf.Unicode.DecodeSlow
import Derived.Shelf.Unicode.DecodeAny
import Derived.Shelf.Unicode.DecodeLast
import Derived.Ground.Names2Prog
import Derived.Shelf.Slices.Clone
import Derived.Shelf.Slices.SearchI
import Derived.Ground.SlgnProg
import Derived.Shelf.SlicesE.Clone
import Derived.Ground.SlgmProg
import Derived.Shelf.SortM.SortNone
import Derived.Shelf.SlGeneric
import Derived.Shelf.SlIterI.Nil
import Derived.Shelf.SortM.Plain
import Derived.Shelf.SlMaps.Clone
import Derived.Ground.GgzProg
import Derived.Ground.SlmcProg
import Derived.Test.YtalkkhafcfhglaaGreatDoorQ1
set_option maxRecDepth 100000
set_option maxHeartbeats 4000000
namespace Go.Proofs.YtalkkhafcfhglaaGreatDoor.Led
open Go.RowKit Go.Maps
def ins (z : Int) : List Int -> List Int
 | [] => [z]
 | y :: r => if z < y then z :: y :: r else if z = y then y :: r else y :: ins z r
theorem Jgd {z x : Int} : ∀ {l : List Int}, x ∈ ins z l ↔ x = z \/ x ∈ l
 | [] => by simp [ins]
 | y :: r => by
   unfold ins;by_cases h1 : z < y
   · rw [if_pos h1]; simp
   · rw [if_neg h1]
     by_cases h2 : z = y
     · rw [if_pos h2]; subst h2; simp
     · rw [if_neg h2]; simp [Jgd (l := r)]; constructor <;> (rintro (h | h | h) <;> simp [h])
def Rising (l : List Int) : Prop := l.Pairwise (· < ·)
theorem Jcg {z : Int} : ∀ {l : List Int}, Rising l -> Rising (ins z l)
 | [], _ => by simp [ins, Rising]
 | y :: r, h => by
   unfold Rising at *;rw [List.pairwise_cons] at h;unfold ins;by_cases h1 : z < y
   · rw [if_pos h1, List.pairwise_cons]
     refine ⟨fun x hx => ?_, List.pairwise_cons.2 h⟩;rcases List.mem_cons.1 hx with rfl | hx
     · exact h1
     · have := h.1 x hx; omega
   · rw [if_neg h1]
     by_cases h2 : z = y
     · rw [if_pos h2]; exact List.pairwise_cons.2 h
     · rw [if_neg h2, List.pairwise_cons]
       refine ⟨fun x hx => ?_, Jcg h.2⟩;rcases Jgd.1 hx with rfl | hx
       · omega
       · exact h.1 x hx
theorem Jte {z : Int} : ∀ {l : List Int}, Rising l -> z ∈ l -> ins z l = l
 | [], _, h => by simp at h
 | y :: r, h, hm => by
   unfold Rising at h;rw [List.pairwise_cons] at h;unfold ins;rcases List.mem_cons.1 hm with rfl | hm
   · rw [if_neg (by omega), if_pos rfl]
   · have := h.1 z hm
     rw [if_neg (by omega), if_neg (by omega), Jte h.2 hm]
theorem Jkq {z : Int} : ∀ {l : List Int}, z ∉ l -> (ins z l).length = l.length + 1
 | [], _ => rfl
 | y :: r, h => by
   simp at h;unfold ins;by_cases h1 : z < y
   · rw [if_pos h1]; rfl
   · rw [if_neg h1, if_neg h.1, List.length_cons, Jkq h.2]; rfl
theorem Jc4 : ∀ {l k : List Int}, Rising l -> Rising k -> (∀ x, x ∈ l ↔ x ∈ k) -> l = k
 | [], [], _, _, _ => rfl
 | [], y :: r, _, _, h => by have := (h y).2 (by simp); simp at this
 | y :: r, [], _, _, h => by have := (h y).1 (by simp); simp at this
 | y :: r, z :: s, hl, hk, h => by
   unfold Rising at hl hk;rw [List.pairwise_cons] at hl hk
   have e : y = z := by
    have h1 := (h y).1 (by simp);have h2 := (h z).2 (by simp);rcases List.mem_cons.1 h1 with h1 | h1
    · exact h1
    · rcases List.mem_cons.1 h2 with h2 | h2
      · exact h2.symm
      · have := hk.1 y h1; have := hl.1 z h2; omega
   subst e;rw [Jc4 hl.2 hk.2 (fun x => ?_)];have := h x;simp only [List.mem_cons] at this;constructor
   · intro hx
     rcases this.1 (.inr hx) with rfl | h3
     · have := hl.1 x hx; omega
     · exact h3
   · intro hx
     rcases this.2 (.inr hx) with rfl | h3
     · have := hk.1 x hx; omega
     · exact h3
theorem Rising.nodup {l : List Int} (h : Rising l) : l.Nodup := List.Pairwise.imp (fun hh => by omega) h
section
variable {H : Type}
def setD (us : List Int) : DataW H := .map (us.map fun z => (.int .i64 z, .agg []))
theorem J12 (a b : Int) : (Lit.int .i64 a).sameKey (.int .i64 b) = decide (a = b) := by simp [Lit.sameKey]
theorem Jl6 (us : List Int) (z : Int) : Maps.has (setD (H := H) us) (.int .i64 z) = decide (z ∈ us) := by
 unfold setD;rw [Maps.has_eq, Bool.eq_iff_iff];simp only [List.any_map, List.any_eq_true, Function.comp, J12, decide_eq_true_eq];constructor
 · rintro ⟨x, hx, rfl⟩; exact hx
 · intro h; exact ⟨z, h, rfl⟩
theorem Jgq (us : List Int) : Maps.size (setD (H := H) us) = us.length := by
 unfold setD; rw [Maps.size_eq, List.length_map]
theorem Jiz (us : List Int) (z : Int) : ((us.map fun z => ((.int .i64 z, .agg []) : Lit × DataW H)).filter fun p => !p.1.sameKey (.int .i64 z)) = (us.filter fun x => decide (x ≠ z)).map fun z => (.int .i64 z, .agg []) := by
 rw [List.filter_map]
 congr 1
 apply List.filter_congr;intro x _;simp [J12]
theorem Jzm (us : List Int) (z : Int) : (setD (H := H) us).del (.int .i64 z) = setD (us.filter fun x => decide (x ≠ z)) := by
 unfold setD DataW.del;simp only;rw [Jiz]
theorem Ji0 (z : Int) : ∀ {us : List Int}, z ∉ us -> DataW.insert ((.int .i64 z, .agg []) : Lit × DataW H) (us.map fun z => (.int .i64 z, .agg [])) = (ins z us).map fun z => (.int .i64 z, .agg [])
 | [], _ => rfl
 | y :: r, h => by
   simp at h;unfold ins;simp only [List.map_cons, DataW.insert, Lit.before];by_cases h1 : z < y
   · simp [h1]
   · simp only [h1, decide_false, Bool.false_eq_true, if_false, h.1]
     rw [Ji0 z h.2]; rfl
theorem Jtf (z : Int) : ∀ {us : List Int}, Rising us -> ins z (us.filter fun x => decide (x ≠ z)) = ins z us := by
 intro us h;refine Jc4 (Jcg (List.Pairwise.filter _ h)) (Jcg h) (fun x => ?_);rw [Jgd, Jgd]
 simp
 constructor
 · rintro (rfl | ⟨h1, _⟩)
   · exact .inl rfl
   · exact .inr h1
 · rintro (rfl | h1)
   · exact .inl rfl
   · by_cases e : x = z
     · exact .inl e
     · exact .inr ⟨h1, e⟩
theorem Jl7 (us : List Int) (z : Int) (h : Rising us) : (setD (H := H) us).put (.int .i64 z) (.agg []) = setD (ins z us) := by
 unfold setD DataW.put;simp only;rw [Jiz, Ji0 z (by simp), Jtf z h]
end
structure Jbf (w : World) (b : Nat) (us : List Int) : Prop where
 own : w.ownsMap Tryz.prog 3 (unitElem (H := Unit)) b us.length (setD us)
 rising : Rising us
theorem Jcf : Keyed Tryz.prog 3 := int_keyed Tryz.underlying3
theorem Jbr {H : Type} {P : Program} {k : TypeId} {R : Value -> Option (DataW H × List MemPlace)} {w : World} {b n : Nat} {D : DataW H} (h : w.ownsMap P k R b n D) : w.ownsMap P k R b (Maps.size D) D := by
 obtain ⟨es, clock, h1, h2, h3, h4⟩ := h;refine ⟨es, clock, h1, h2, ?_, h4⟩;rw [h4, Maps.size_eq, length_sorted]; simp
theorem Jbf.of_own {w : World} {b n : Nat} {us : List Int} (h : w.ownsMap Tryz.prog 3 (unitElem (H := Unit)) b n (setD us)) (hr : Rising us) : Jbf w b us :=
 ⟨by have := Jbr h; rwa [Jgq] at this, hr⟩
theorem Jbf.new (w : World) : Jbf (w.alloc (.map #[] 0)) w.heap.size [] := ⟨World.ownsMap_made _ _ _ _, List.Pairwise.nil⟩
theorem Jbf.lt {w : World} {b : Nat} {us : List Int} (h : Jbf w b us) : b < w.heap.size := h.own.lt
theorem Jbf.below {w w' : World} {b : Nat} {us : List Int} (h : Jbf w b us) {B : Nat} (hb : Below B w w') (hlt : b < B) : Jbf w' b us := by
 obtain ⟨es, clock, h1, r⟩ := h.own;exact ⟨⟨es, clock, (hb.block b hlt).trans h1, r⟩, h.rising⟩
theorem Jbf.grown {w w' : World} {b : Nat} {us : List Int} {row : Option Nat} (h : Jbf w b us) (hg : w.grownBy w' row) (hne : some b ≠ row) : Jbf w' b us := ⟨h.own.kept hg hne, h.rising⟩
theorem Jbf.alloc {w : World} {b : Nat} {us : List Int} (h : Jbf w b us) (o : Obj) : Jbf (w.alloc o) b us := ⟨h.own.alloc o, h.rising⟩
theorem Jag {a b : Bool} (h : a = b) : Ending.returned (.bool a) = .returned (.bool b) := by rw [h]
theorem Jbl {k : IntKind} {a b : Int} (h : a = b) : Ending.returned (.int k a) = .returned (.int k b) := by rw [h]
theorem wf_i64 {z : Int} (h : -9223372036854775808 <= z /\ z <= 9223372036854775807) : (Lit.int .i64 z).wf = true := by
 have : IntKind.i64.min = -9223372036854775808 /\ IntKind.i64.max = 9223372036854775807 := by decide
 simp [Lit.wf, this.1, this.2, h.1, h.2]
theorem Ji1 (w : World) : (zeroValue 182).run Tryz.prog w = .ok (.agg #[]) w := by kernel_rfl
def Jl8 (o : Option Obj) (m : Nat) (from_ n : Int) : Prop := ∃ (tl : List Value) (T : TypeId), o = some (.cells ⟨.int .i64 from_ :: .int .i64 n :: .map (some m) :: tl⟩ T (0, 0))
theorem Jl8.keep {o o' : Option Obj} {m : Nat} {f n : Int} (h : Jl8 o m f n) (e : o' = o) : Jl8 o' m f n := e ▸ h
structure Jat (w : World) (g m : Nat) (from_ n : Int) (us : List Int) : Prop where
 blk : Jl8 w.heap[g]? m from_ n
 set : Jbf w m us
 rng : 0 <= from_ /\ from_ <= 9223372036854775807 /\ 0 <= n /\ n <= 4096 /\ (n = 0 \/ from_ <= 4096)
 ins : ∀ z ∈ us, from_ <= z /\ z < from_ + n
theorem Jat.lt {w : World} {g m : Nat} {f n : Int} {us : List Int} (h : Jat w g m f n us) : g < w.heap.size := by obtain ⟨_, _, e⟩ := h.blk; exact lt_of_block e
theorem Jat.ne {w : World} {g m : Nat} {f n : Int} {us : List Int} (h : Jat w g m f n us) : g ≠ m := by
 intro e;obtain ⟨es, c, h1, _⟩ := h.set.own;obtain ⟨_, _, this⟩ := h.blk;rw [e, h1] at this; cases this
theorem Jat.cells {w : World} {g m : Nat} {f n : Int} {us : List Int} (h : Jat w g m f n us) : w.cell? ⟨g, 0, none⟩ = some (.int .i64 f) /\ w.cell? ⟨g, 1, none⟩ = some (.int .i64 n) /\ w.cell? ⟨g, 2, none⟩ = some (.map (some m)) := by
 obtain ⟨_, _, e⟩ := h.blk;exact ⟨cell_of_row w g 0 _ _ _ e, cell_of_row w g 1 _ _ _ e, cell_of_row w g 2 _ _ _ e⟩
theorem Jat.below {w w' : World} {g m : Nat} {f n : Int} {us : List Int} (h : Jat w g m f n us) (hb : Below w.heap.size w w') : Jat w' g m f n us :=
 ⟨h.blk.keep (hb.block g h.lt), h.set.below hb h.set.lt, h.rng, h.ins⟩
theorem Jat.far {w w' : World} {g m : Nat} {f n : Int} {us : List Int} {row : Option Nat} (h : Jat w g m f n us) (hg : w.grownBy w' row) (h1 : some g ≠ row) (h2 : some m ≠ row) : Jat w' g m f n us :=
 ⟨h.blk.keep (hg.block g h.lt h1), h.set.grown hg h2, h.rng, h.ins⟩
theorem Jfo : ∀ {l : List Int} {a b : Int}, Rising l -> a <= b -> (∀ z ∈ l, a <= z /\ z < b) -> (l.length : Int) <= b - a
 | [], a, b, _, hab, _ => by simp; omega
 | y :: r, a, b, h, _, hi => by
   unfold Rising at h;rw [List.pairwise_cons] at h;have hy := hi y (by simp);have := Jfo (l := r) (a := y + 1) (b := b) h.2 (by omega) (fun z hz => ⟨by have := h.1 z hz; omega, (hi z (by simp [hz])).2⟩);simp only [List.length_cons]; omega
theorem Jat.size_le {w : World} {g m : Nat} {f n : Int} {us : List Int} (h : Jat w g m f n us) : (us.length : Int) <= n := by
 have := Jfo h.set.rising (a := f) (b := f + n) (by have := h.rng; omega) h.ins;omega
theorem Jl9 (g m : Nat) (f n : Int) (us : List Int) (z : Int) (w : World) (h : Jat w g m f n us) (hz : (Lit.int .i64 z).wf = true) :
  Calls Tryz.prog 255 #[.pointer (some ⟨g, 0, none⟩), .int .i64 z] w fun e w' => e = .returned (.bool (decide (z ∈ us))) /\ Below w.heap.size w w' := by
 obtain ⟨c0, c1, c2⟩ := h.cells;have hown := h.set.own;go_enter Tryz.func255, Tryz.ntmps255;go_wp2_with (at_lookup; refine wpList_lookup_own_unit _ rfl _ _ 103 rfl 3 182 Jcf Tryz.underlying103 (Ji1 _) m us.length (setD us) rfl hown _ _ rfl (keyOf_int_mk Tryz.underlying3 hz) ?_)
 go_ret;exact ⟨Jag (Jl6 us z), (Below.refl _ _).alloc (Nat.le_refl _) _⟩
theorem Jma (g m : Nat) (f n : Int) (us : List Int) (w : World) (h : Jat w g m f n us) :
  Calls Tryz.prog 215 #[.pointer (some ⟨g, 0, none⟩)] w fun e w' => e = .returned (.int .i64 (n - us.length)) /\ Below w.heap.size w w' := by
 obtain ⟨c0, c1, c2⟩ := h.cells
 have hlen : ∀ q ty, (Builtin.len_ #[103] ty #[.map (some m)]).run Tryz.prog (w.drewN q) = .ok (.int .i64 us.length) (w.drewN q) := fun q ty => by
  have hd : (w.drewN q).ownsMap Tryz.prog 3 (unitElem (H := Unit)) m us.length (setD us) := h.set.own;rw [hd.len Tryz.underlying103 ty, Jgq]
 have hs := h.size_le;obtain ⟨_, _, h3, h4, _⟩ := h.rng;go_enter Tryz.func215, Tryz.ntmps215;go_wp2;go_quiet (fail)
 go_wp2;go_ret;exact ⟨rfl, below_drewN (Below.refl _ _) _⟩
def J2s (from_ n : Int) (w : World) (e : Ending) (w' : World) : Prop :=
 ∃ g m f k, e = .returned (.pointer (some ⟨g, 0, none⟩)) /\ Jat w' g m f k [] /\ Below w.heap.size w w' /\ w.heap.size <= g /\ w.heap.size <= m /\
  f = max from_ 0 /\ k = if from_ < 0 \/ 4096 < from_ \/ n < 0 then 0 else min n 4096
theorem J4v (w : World) (f k : Int) (h : 0 <= f /\ f <= 9223372036854775807 /\ 0 <= k /\ k <= 4096 /\ (k = 0 \/ f <= 4096)) :
  Jat ((w.alloc (.map #[] 0)).alloc (.cells #[.int .i64 f, .int .i64 k, .map (some w.heap.size)] 105)) (w.heap.size + 1) w.heap.size f k [] :=
 ⟨⟨[], _, by have := heap_alloc_new (w.alloc (.map #[] 0)) (.cells #[.int .i64 f, .int .i64 k, .map (some w.heap.size)] 105); simpa using this⟩, (Jbf.new w).alloc _, h, by simp⟩
theorem J2t (from_ n : Int) (w : World) (hf : -9223372036854775808 <= from_ /\ from_ <= 9223372036854775807) :
  Calls Tryz.prog 117 #[.int .i64 from_, .int .i64 n] w (J2s from_ n w) := by
 have hmm := @run_makeMap Tryz.prog;obtain ⟨hf1, hf2⟩ := hf;go_enter Tryz.func117, Tryz.ntmps117;go_wp2
 all_goals
  go_ret;refine ⟨_, _, _, _, rfl, J4v w _ _ ?_, ((Below.refl _ _).alloc (Nat.le_refl _) _).alloc (by simp) _, by simp, by simp, ?_, ?_⟩
  · omega
  · omega
  · split <;> omega
def insAll (us : List Int) (zs : List Int) : List Int := zs.foldl (fun u z => ins z u) us
theorem Jge (us zs : List Int) (z : Int) : insAll us (zs ++ [z]) = ins z (insAll us zs) := by simp [insAll, List.foldl_append]
theorem mem_insAll {x : Int} : ∀ {zs us : List Int}, x ∈ insAll us zs ↔ x ∈ us \/ x ∈ zs
 | [], us => by simp [insAll]
 | z :: r, us => by
   show x ∈ insAll (ins z us) r ↔ _;rw [mem_insAll (zs := r), Jgd]; simp;constructor
   · rintro ((h | h) | h) <;> simp [h]
   · rintro (h | h | h) <;> simp [h]
theorem Jcz : ∀ {zs us : List Int}, Rising us -> Rising (insAll us zs)
 | [], _, h => h
 | _ :: r, _, h => Jcz (zs := r) (Jcg h)
theorem Je1 {w w' : World} {k : IntKind} {A : Option Addr} {n : Nat} {zs : List Int} {m : Nat} (h : Ints w k A n zs) (hg : w.grownBy w' (some m)) (hm : ∀ o, w.cell? ⟨m, o, none⟩ = none) : Ints w' k A n zs :=
 ⟨⟨fun hne => by
  obtain ⟨b, off, e, hlt, hc⟩ := h.sl.at_ hne
  have hbm : b ≠ m := by
   rintro rfl;obtain ⟨u, r, hu⟩ := List.exists_cons_of_ne_nil hne;have := hc 0 u (by rw [hu]; rfl);rw [hm] at this; cases this
  exact ⟨b, off, e, Nat.lt_of_lt_of_le hlt hg.size, fun j u hu => hg.cell (a := ⟨b, off + j, none⟩) (hc j u hu) (fun e => hbm (by injection e))⟩⟩, h.len, h.n_le, h.wf⟩
theorem Jbf.nocell {w : World} {b : Nat} {us : List Int} (h : Jbf w b us) (o : Nat) : w.cell? ⟨b, o, none⟩ = none := by
 obtain ⟨es, c, h1, _⟩ := h.own;simp [World.cell?, h1]
theorem Jap {a b c : World} {row : Option Nat} (h : a.grownBy b row) (k : b.grownBy c row) : a.grownBy c row :=
 ⟨k.os.trans h.os, k.tape.trans h.tape, k.output.trans h.output, Nat.le_trans h.size k.size, fun i hi hne => (k.block i (Nat.lt_of_lt_of_le hi h.size) hne).trans (h.block i hi hne)⟩
theorem Jaa {a b : World} (h : Below a.heap.size a b) (row : Option Nat) : a.grownBy b row := ⟨h.os, h.tape, h.output, h.size, fun i hi _ => h.block i hi⟩
theorem J2u (g m : Nat) (f n : Int) (us : List Int) (A : Option Addr) (k c : Nat) (zs : List Int) (w : World) (h : Jat w g m f n us) (hz : Ints w .i64 A k zs) (hin : ∀ z ∈ zs, f <= z /\ z < f + n) :
  Calls Tryz.prog 256 #[.pointer (some ⟨g, 0, none⟩), .slice A k c] w fun e w' => e = .returned (.tuple #[]) /\ Jat w' g m f n (insAll us zs) /\ w.grownBy w' (some m) := by
 have hn := hz.n_le;have HL := zI hz.len;unfold maxLen at hn;go_enter Tryz.func256, Tryz.ntmps256;go_wp2;go_loopw [8] (fun i wr => ∃ j : Nat, j <= k /\ i = .int .i64 j /\ Jat wr g m f n (insAll us (zs.take j)) /\ w.grownBy wr (some m)) (fun i _ => k - (intOf i).toNat)
 case atStart => exact ⟨0, Nat.zero_le _, rfl, h, World.grownBy.refl _ _⟩
 case round =>
  obtain ⟨j, hj, rfl, hp, hgr⟩ := hrel;by_cases hlt : j < k
  · have K : j < zs.length := by rw [HL.out]; exact hlt
    obtain ⟨b, off, rfl, hb, hc⟩ := (Je1 hz hgr h.set.nocell).get K;obtain ⟨c0, c1, c2⟩ := hp.cells;have hown := hp.set.own;have hwf := hz.wf _ (List.getElem_mem K);have hsz := hp.size_le;obtain ⟨_, _, _, h4096, _⟩ := hp.rng;have HN := zI (show insAll us (zs.take (j + 1)) = ins zs[j] (insAll us (zs.take j)) from by rw [List.take_succ_eq_append_getElem K, Jge]);go_wp2_with (at_mapUpdate; refine wpList_mapUpdate_own _ rfl _ _ _ 103 rfl 3 182 Jcf Tryz.underlying103 _ m _ (setD (insAll us (zs.take j))) rfl hown (by unfold maxLen; omega) _ _ _ rfl rfl (keyOf_int_mk Tryz.underlying3 hwf) _ [] unitElem_mk ?_; intro w1 hown1 hgrow1)
    rw [Jl7 _ _ hp.set.rising] at hown1
    have hp1 : Jat w1 g m f n (insAll us (zs.take (j + 1))) := by
     rw [HN.out]
     exact ⟨hp.blk.keep (hgrow1.block g hp.lt (fun e => hp.ne (by injection e))), Jbf.of_own hown1 (Jcg hp.set.rising), hp.rng, fun z hz' => by
      rcases Jgd.1 hz' with rfl | hz'
      · exact hin _ (List.getElem_mem K)
      · exact hp.ins z hz'⟩
    clear hown1;go_wp2;go_roundw
    case rel => exact ⟨j + 1, by omega, by go_num, hp1, Jap hgr hgrow1⟩
    case measure => simp [intOf]; omega
  · go_wp2
    go_end0
    rw [List.take_of_length_le (by rw [HL.out]; omega)] at hp;exact ⟨rfl, hp, hgr⟩
def freeIn (f : Int) (us : List Int) (a : Nat) : List Int := ((List.range a).map fun (j : Nat) => f + (j : Int)).filter fun z => decide (z ∉ us)
theorem Jpy (f : Int) (us : List Int) : freeIn f us 0 = [] := rfl
theorem Ji2 (f : Int) (us : List Int) (a : Nat) : freeIn f us (a + 1) = freeIn f us a ++ (if f + (a : Int) ∈ us then [] else [f + (a : Int)]) := by
 unfold freeIn;rw [List.range_succ, List.map_append, List.filter_append]
 congr 1
 by_cases h : f + (a : Int) ∈ us <;> simp [h]
theorem mem_freeIn {f : Int} {us : List Int} {a : Nat} {z : Int} : z ∈ freeIn f us a ↔ f <= z /\ z < f + a /\ z ∉ us := by
 unfold freeIn;simp only [List.mem_filter, List.mem_map, List.mem_range, decide_eq_true_eq];constructor
 · rintro ⟨⟨j, hj, rfl⟩, h⟩; exact ⟨by omega, by omega, h⟩
 · rintro ⟨h1, h2, h3⟩; exact ⟨⟨(z - f).toNat, by omega, by omega⟩, h3⟩
theorem Jh7 (f : Int) (a : Nat) : Rising ((List.range a).map fun (j : Nat) => f + (j : Int)) := by
 unfold Rising;rw [List.pairwise_map];exact List.Pairwise.imp (fun {x y} (h : x < y) => by omega) List.pairwise_lt_range
theorem rising_freeIn (f : Int) (us : List Int) (a : Nat) : Rising (freeIn f us a) := List.Pairwise.filter _ (Jh7 f a)
theorem Je2 {α : Type} (p : α -> Bool) : ∀ l : List α, (l.filter p).length + (l.filter fun x => !p x).length = l.length
 | [] => rfl
 | x :: r => by
   have := Je2 p r;cases h : p x <;> simp [h] <;> omega
theorem freeIn_len {f : Int} {us : List Int} {n : Nat} (hr : Rising us) (hi : ∀ z ∈ us, f <= z /\ z < f + n) : (freeIn f us n).length + us.length = n := by
 have h1 : ((List.range n).map fun (j : Nat) => f + (j : Int)).filter (fun z => decide (z ∈ us)) = us :=
  Jc4 (List.Pairwise.filter _ (Jh7 f n)) hr (fun x => by
   simp only [List.mem_filter, List.mem_map, List.mem_range, decide_eq_true_eq];constructor
   · exact fun h => h.2
   · intro h; have := hi x h; exact ⟨⟨(x - f).toNat, by omega, by omega⟩, h⟩)
 have h2 := Je2 (fun z => decide (z ∈ us)) ((List.range n).map fun (j : Nat) => f + (j : Int));rw [h1] at h2
 have h3 : (((List.range n).map fun (j : Nat) => f + (j : Int)).filter fun z => !decide (z ∈ us)) = freeIn f us n := by
  unfold freeIn; apply List.filter_congr; intro x _; simp
 rw [h3] at h2;simp at h2; omega
theorem Jmb {f : Int} {us : List Int} {a n : Nat} (h : a <= n) : (freeIn f us n).take (freeIn f us a).length = freeIn f us a := by
 induction n with
 | zero => have : a = 0 := by omega
           subst this; rfl
 | succ n ih =>
   by_cases e : a = n + 1
   · subst e; exact List.take_length
   · rw [Ji2, List.take_append_of_le_length, ih (by omega)]
     have := congrArg List.length (ih (by omega));rw [List.length_take] at this; omega
def Jcs (f n : Int) (us : List Int) (k : Int) : List Int × Int :=
 if k < 0 then ([], 1) else if n - us.length < k then ([], 20) else ((freeIn f us n.toNat).take k.toNat, 0)
def Jgr (g m : Nat) (f n : Int) (us : List Int) (k : Int) (w : World) (e : Ending) (w' : World) : Prop :=
 ∃ v, e = .returned (.tuple #[v, .int .i64 (Jcs f n us k).2]) /\ w'.ownsRow w.heap.size 3 1 v (Jcs f n us k).1.length ((Jcs f n us k).1.map (Value.int .i64)) /\
  Jat w' g m f n (insAll us (Jcs f n us k).1) /\ w.grownBy w' (some m)
theorem Jfp : (Tryz.prog.info? 3).map (fun i => (i.zero, i.size, i.bytes)) = some (some (.int .i64 0), 1, 8) := by kernel_rfl
theorem own_ints {w : World} {base : Nat} {v : Value} {zs : List Int} (h : w.ownsRow base 3 1 v zs.length (zs.map (Value.int .i64))) (hs : ∀ z ∈ zs, (Lit.int .i64 z).wf = true) (hl : zs.length <= maxLen) :
  ∃ A c, v = .slice A zs.length c /\ Ints w .i64 A zs.length zs := by
 rcases h.2 with ⟨rfl, he⟩ | ⟨g, cap, cur, rfl, _, hg, _, _, _, _⟩
 · have h0 : zs = [] := by simpa using he
   subst h0;exact ⟨none, 0, rfl, Sl.nil _ _, rfl, by decide, by simp⟩
 · exact ⟨some ⟨g, 0, none⟩, cap, rfl, ⟨fun _ => ⟨g, 0, rfl, lt_of_block hg, fun j u hu => by
    have hj : j < zs.length := by have := (List.getElem?_eq_some_iff.1 hu).1; simpa using this
    rw [Nat.zero_add, h.cellAt j (by omega)]; exact hu⟩⟩, rfl, hl, hs⟩
theorem own_below {w w' : World} {base : Nat} {e : TypeId} {size : Nat} {v : Value} {n : Nat} {xs : List Value} (h : w.ownsRow base e size v n xs) (hb : Below w.heap.size w w') : w'.ownsRow base e size v n xs :=
 h.kept (Jaa hb none) (Classical.em _)
theorem Jzn (g m : Nat) (f n : Int) (us : List Int) (k : Int) (w : World) (h : Jat w g m f n us) (hk : -9223372036854775808 <= k /\ k <= 9223372036854775807) :
  Calls Tryz.prog 218 #[.pointer (some ⟨g, 0, none⟩), .int .i64 k] w (Jgr g m f n us k w) := by
 obtain ⟨hk1, hk2⟩ := hk;by_cases h1 : k < 0
 · have HO := zI (show Jcs f n us k = ([], 1) from if_pos h1)
   go_enter Tryz.func218, Tryz.ntmps218;go_wp2_with fail
   go_ret2;unfold Jgr;rw [HO.out];exact ⟨_, rfl, World.ownsRow_nil _ _ _ _, h, World.grownBy.refl _ _⟩
 · have hsz := h.size_le
   obtain ⟨hf0, hf1, hn0, hn1, hfn⟩ := h.rng;by_cases h2 : n - us.length < k
   · have HO := zI (show Jcs f n us k = ([], 20) from by unfold Jcs; rw [if_neg h1, if_pos h2])
     clear hfn;go_enter Tryz.func218, Tryz.ntmps218;go_wp2_with fail
     refine (Jma g m f n us w h).mono ?_;rintro e w1 ⟨rfl, hb⟩;go_wp2_with fail
     go_ret2;unfold Jgr;rw [HO.out];exact ⟨_, rfl, World.ownsRow_nil _ _ _ _, h.below hb, Jaa hb _⟩
   · have HO := zI (show Jcs f n us k = ((freeIn f us n.toNat).take k.toNat, 0) from by unfold Jcs; rw [if_neg h1, if_neg h2])
     obtain ⟨kn, hkn⟩ : ∃ kn : Nat, k = kn := ⟨k.toNat, by omega⟩;obtain ⟨nn, hnn⟩ : ∃ nn : Nat, n = nn := ⟨n.toNat, by omega⟩;subst hkn hnn;have hfl := freeIn_len (n := nn) h.set.rising h.ins;have HFL := zI hfl;have hfr : kn <= (freeIn f us nn).length := (by omega);clear hfl;obtain ⟨i0, hi, hz0, hz1, hz2⟩ := info_parts Jfp;have HFN := zI hfn;clear hfn;go_enter Tryz.func218, Tryz.ntmps218;go_wp2_with fail
     refine (Jma g m f nn us w h).mono ?_;rintro e w1 ⟨rfl, hb1⟩;go_wp2_with fail
     go_loopw [6, 7] (fun v i wr => ∃ a : Nat, a <= nn /\ i = .int .i64 a /\ (freeIn f us a).length <= kn /\ wr.ownsRow w.heap.size 3 1 v (freeIn f us a).length ((freeIn f us a).map (Value.int .i64)) /\ Below w.heap.size w wr) (fun _ i _ => nn - (intOf i).toNat)
     case atStart => exact ⟨0, Nat.zero_le _, rfl, by simp [Jpy], World.ownsRow_nil _ _ _ _, hb1⟩
     case round =>
      obtain ⟨a, ha, rfl, hlen, hown, hbel⟩ := hrel;obtain ⟨A, c, rfl, hints⟩ := own_ints hown (fun z hz => wf_i64 (by have := mem_freeIn.1 hz; have := HFN.out; omega)) (by unfold maxLen; omega);by_cases hlt : (freeIn f us a).length < kn
      · have han : a < nn := by
         rcases Nat.lt_or_ge a nn with h' | h'
         · exact h'
         · have : a = nn := by omega
           subst this; omega
        have hf4 : f <= 4096 := by rcases HFN.out with h' | h' <;> omega
        have hp := h.below hbel;obtain ⟨c0, c1, c2⟩ := hp.cells;have HX := zI (Ji2 f us a);by_cases hu : f + (a : Int) ∈ us
        · have HX2 := zI (show freeIn f us (a + 1) = freeIn f us a from by rw [HX.out, if_pos hu, List.append_nil])
          have HU := zI (decide_eq_true hu);go_wp2_with (go_at_call 255; refine (Jl9 g m f nn us (f + a) wr hp (wf_i64 ⟨by omega, by omega⟩)).mono ?_; rintro e w2 ⟨rfl, hb2⟩; rw [HU.out])
          go_roundw
          case rel => exact ⟨a + 1, by omega, by go_num, by rw [HX2.out]; exact hlen, by rw [HX2.out]; exact own_below hown hb2, hbel.trans (hb2.mono hbel.size)⟩
          case measure => simp [intOf]; omega
        · have HX2 := zI (show freeIn f us (a + 1) = freeIn f us a ++ [f + (a : Int)] from by rw [HX.out, if_neg hu])
          have HU := zI (decide_eq_false hu);go_wp2_with fail
          refine (Jl9 g m f nn us (f + a) wr hp (wf_i64 ⟨by omega, by omega⟩)).mono ?_;rintro e w2 ⟨rfl, hb2⟩;rw [HU.out];have hown2 := own_below hown hb2;have hb3 := hbel.trans (hb2.mono hbel.size);obtain ⟨d0, d1, d2⟩ := (hp.below hb2).cells;clear c0 c1 c2;go_wp2_with (at_builtin; refine wpList_append_own _ rfl _ _ 51 rfl w.heap.size 3 i0 (.int .i64 0) 1 8 Tryz.underlying51 hi hz0 hz1 hz2 rfl (by decide) _ _ _ rfl (hown2.alloc _) ⟨w2.heap.size, 0, none⟩ 1 1 [.int .i64 (f + a)] rfl rfl (cell_one_new _ _ _) (ints_oneCell _ [f + (a : Int)]) ?c3 ?c4 ?c5 ?_)
          case c3 => unfold maxLen; omega
          case c4 => omega
          case c5 => have := hb3.size; simp; omega
          intro v' w3 hown3 hgrow3 _;have hb4 := (hb3.alloc hb3.size _).grown hgrow3 (by have := hb3.size; simp; omega) (fun j hj => (hown.lt j hj).1);clear hown2 hgrow3;go_wp2;go_roundw
          case rel => exact ⟨a + 1, by omega, by go_num, by rw [HX2.out]; simp; omega, by rw [HX2.out]; simpa using hown3, hb4⟩
          case measure => simp [intOf]; omega
      · have hke : (freeIn f us a).length = kn := by omega
        have HR := zI (show (freeIn f us nn).take kn = freeIn f us a from by rw [<- hke]; exact Jmb ha);have hd : decide (((freeIn f us a).length : Int) < (kn : Int)) = false := by simp; omega
        have HO2 := zI (show Jcs f nn us kn = (freeIn f us a, 0) from by rw [HO.out]; simp only [Int.toNat_natCast]; rw [HR.out]);have hp := h.below hbel;by_cases hk0 : kn = 0
        · have e0 : freeIn f us a = [] := List.eq_nil_of_length_eq_zero (by omega)
          have hk0' : decide ((0 : Int) < (kn : Int)) = false := by simp; omega
          have hkz : ¬ 0 < kn := (by omega);have HE := zI e0;clear e0 hke hk0;go_wp2_with fail
          go_ret2;unfold Jgr;rw [HO2.out];exact ⟨_, rfl, hown, by rw [HE.out]; exact hp, Jaa hbel _⟩
        · have hk0' : (0 : Int) < (kn : Int) := by omega
          have HKE := zI hke;clear hke;go_wp2_with fail
          refine (J2u g m f nn us A _ c (freeIn f us a) wr hp hints (fun z hz => by have := mem_freeIn.1 hz; omega)).mono ?_;rintro e w4 ⟨rfl, hp4, hg4⟩
          have hown4 := hown.kept hg4 (by
           right
           intro e;have h1 := (hown.lt m e).1;have := h.set.lt;omega)
          go_wp2_with fail
          go_ret2;unfold Jgr;rw [HO2.out];exact ⟨_, rfl, hown4, hp4, Jap (Jaa hbel _) ⟨hg4.os, hg4.tape, hg4.output, hg4.size, hg4.block⟩⟩
def Jdo (s : List Int × Int) (z : Int) : List Int × Int := if z ∈ s.1 then (s.1.filter (fun x => decide (x ≠ z)), s.2 + 1) else s
def Jbm (us : List Int) (zs : List Int) : List Int × Int := zs.foldl Jdo (us, 0)
theorem Jh8 (us zs : List Int) (z : Int) : Jbm us (zs ++ [z]) = Jdo (Jbm us zs) z := by simp [Jbm, List.foldl_append]
theorem J2v (us : List Int) : ∀ zs : List Int, 0 <= (Jbm us zs).2 /\ (Jbm us zs).2 <= zs.length := by
 intro zs;obtain ⟨ys, rfl⟩ : ∃ ys : List Int, zs = ys.reverse := ⟨zs.reverse, by simp⟩
 induction ys with
 | nil => simp [Jbm]
 | cons y r ih =>
   rw [List.reverse_cons, Jh8];unfold Jdo;split <;> simp only [List.length_append, List.length_cons, List.length_nil] <;> omega
theorem Jvf {w : World} {b n : Nat} {us : List Int} {z : Int} (h : w.ownsMap Tryz.prog 3 (unitElem (H := Unit)) b n ((setD us).del (.int .i64 z))) (hr : Rising us) : Jbf w b (us.filter fun x => decide (x ≠ z)) := by
 rw [Jzm] at h;exact Jbf.of_own h (List.Pairwise.filter _ hr)
theorem Jrd (g m : Nat) (f n : Int) (us : List Int) (A : Option Addr) (k c : Nat) (zs : List Int) (w : World) (h : Jat w g m f n us) (hz : Ints w .i64 A k zs) :
  Calls Tryz.prog 220 #[.pointer (some ⟨g, 0, none⟩), .slice A k c] w fun e w' => e = .returned (.int .i64 (Jbm us zs).2) /\ Jat w' g m f n (Jbm us zs).1 /\ w.grownBy w' (some m) := by
 have hn := hz.n_le;have HL := zI hz.len;unfold maxLen at hn;go_enter Tryz.func220, Tryz.ntmps220;go_wp2;go_loopw [5, 10] (fun q i wr => ∃ j : Nat, j <= k /\ i = .int .i64 j /\ q = .int .i64 (Jbm us (zs.take j)).2 /\ Jat wr g m f n (Jbm us (zs.take j)).1 /\ w.grownBy wr (some m)) (fun _ i _ => k - (intOf i).toNat)
 case atStart => exact ⟨0, Nat.zero_le _, rfl, rfl, h, World.grownBy.refl _ _⟩
 case round =>
  obtain ⟨j, hj, rfl, rfl, hp, hgr⟩ := hrel;by_cases hlt : j < k
  · have K : j < zs.length := by rw [HL.out]; exact hlt
    obtain ⟨b, off, rfl, hb, hc⟩ := (Je1 hz hgr h.set.nocell).get K;have hwf := hz.wf _ (List.getElem_mem K);have HN := zI (show Jbm us (zs.take (j + 1)) = Jdo (Jbm us (zs.take j)) zs[j] from by rw [List.take_succ_eq_append_getElem K, Jh8]);have hbd := J2v us (zs.take j);rw [List.length_take] at hbd;obtain ⟨hbd1, hbd2⟩ := hbd;have hbd3 : (Jbm us (zs.take j)).2 <= j := (by omega);clear hbd2;generalize Jbm us (zs.take j) = S at *;generalize zs[j]'K = z at *;by_cases hu : z ∈ S.1
    · have HX := zI (show Jdo S z = (S.1.filter (fun x => decide (x ≠ z)), S.2 + 1) from if_pos hu)
      have HU := zI (decide_eq_true hu);clear hu;go_wp2_with fail
      refine (Jl9 g m f n S.1 z wr hp hwf).mono ?_;rintro e w2 ⟨rfl, hb2⟩;rw [HU.out];have hp2 := hp.below hb2;obtain ⟨c0, c1, c2⟩ := hp2.cells;have hown := hp2.set.own;go_wp2_with (at_delete; refine wpList_delete_own _ rfl _ _ 103 3 rfl 182 Jcf Tryz.underlying103 _ m _ (setD S.1) rfl hown _ _ rfl (keyOf_int_mk Tryz.underlying3 hwf) ?_; intro w3 hown3 hturn3)
      have hg3 := hturn3.grown
      have hp3 : Jat w3 g m f n (Jbm us (zs.take (j + 1))).1 := by
       rw [HN.out, HX.out];exact ⟨hp2.blk.keep (hg3.block g hp2.lt (fun e => hp.ne (by injection e))), Jvf hown3 hp.set.rising, hp.rng, fun z hz' => hp.ins z (List.mem_filter.1 hz').1⟩
      have hgr3 := Jap hgr (Jap (Jaa hb2 _) hg3);clear hown3 hturn3 hg3;go_wp2;go_roundw
      case rel => exact ⟨j + 1, by omega, by go_num, by rw [HN.out, HX.out], hp3, hgr3⟩
      case measure => simp [intOf]; omega
    · have HX := zI (show Jdo S z = S from if_neg hu)
      have HU := zI (decide_eq_false hu);clear hu;go_wp2_with fail
      refine (Jl9 g m f n S.1 z wr hp hwf).mono ?_;rintro e w2 ⟨rfl, hb2⟩;rw [HU.out];go_wp2;go_roundw
      case rel => exact ⟨j + 1, by omega, by go_num, by rw [HN.out, HX.out], by rw [HN.out, HX.out]; exact hp.below hb2, Jap hgr (Jaa hb2 _)⟩
      case measure => simp [intOf]; omega
  · have e1 := zI (show zs.take j = zs from List.take_of_length_le (by rw [HL.out]; omega))
    go_wp2;go_ret;rw [e1.out] at hp;exact ⟨by rw [e1.out]; rfl, hp, hgr⟩
end Go.Proofs.YtalkkhafcfhglaaGreatDoor.Led
namespace Go.Proofs
open Go.Shelf
def Tryz.keysA_ren : Go.Shelf.Ren := ⟨fun | 7 => 88 | 10 => 160 | n => n, fun | 23 => 103 | 26 => 3 | 3 => 182 | 28 => 180 | 0 => 0 | 27 => 179 | 33 => 60 | 4 => 4 | n => n, fun | n => n⟩
theorem Tryz.keysA : Go.Proofs.SlLaysZI.n7 Tryz.prog Tryz.keysA_ren := {
 mixed := by kernel_rfl
 f7 := ⟨Tryz.f88.name, by decide, Tryz.func88.trans (congrArg some (by kernel_rfl))⟩
 f10 := ⟨Tryz.f160.name, by decide, Tryz.func160.trans (congrArg some (by kernel_rfl))⟩
 t0 := Tryz.underlying0
 a0 := Tryz.isAgg0
 z0 := Tryz.sizeOf0
 v0 := Tryz.zeroValue0
 t4 := Tryz.underlying4
 a4 := Tryz.isAgg4
 z4 := Tryz.sizeOf4
 v4 := Tryz.zeroValue4
 t23 := Tryz.underlying103
 a23 := Tryz.isAgg103
 z23 := Tryz.sizeOf103
 v23 := Tryz.zeroValue103
 t26 := Tryz.underlying3
 a26 := Tryz.isAgg3
 z26 := Tryz.sizeOf3
 v26 := Tryz.zeroValue3
 t27 := Tryz.underlying179
 a27 := Tryz.isAgg179
 z27 := Tryz.sizeOf179
 v27 := Tryz.zeroValue179
 t28 := Tryz.underlying180
 a28 := Tryz.isAgg180
 z28 := Tryz.sizeOf180
 v28 := Tryz.zeroValue180
 t33 := Tryz.underlying60
 a33 := Tryz.isAgg60
 z33 := Tryz.sizeOf60
 v33 := Tryz.zeroValue60 }
def Tryz.sortedA_ren : Go.Shelf.Ren := ⟨fun | 6 => 87 | 8 => 158 | 9 => 159 | 11 => 223 | 13 => 225 | 12 => 224 | 23 => 267 | 24 => 268 | 14 => 258 | 15 => 259 | 16 => 260 | 17 => 261 | 18 => 262 | 19 => 263 | 20 => 264 | 21 => 265 | 22 => 266 | 25 => 284 | 26 => 285 | 27 => 286 | 28 => 287 | 29 => 288 | 30 => 289 | 31 => 312 | n => n, fun | 26 => 3 | 28 => 180 | 24 => 51 | 0 => 0 | 3 => 3 | 37 => 219 | 48 => 294 | 50 => 43 | 4 => 4 | 40 => 358 | 39 => 357 | 45 => 189 | 5 => 5 | 9 => 9 | 51 => 371 | 55 => 374 | 57 => 391 | 58 => 392 | 33 => 60 | n => n, fun | n => n⟩
theorem Tryz.sortedA : Go.Proofs.SlLaysZI.n6 Tryz.prog Tryz.sortedA_ren := {
 mixed := by kernel_rfl
 f6 := ⟨Tryz.f87.name, by decide, Tryz.func87.trans (congrArg some (by kernel_rfl))⟩
 f8 := ⟨Tryz.f158.name, by decide, Tryz.func158.trans (congrArg some (by kernel_rfl))⟩
 f11 := ⟨Tryz.f223.name, by decide, Tryz.func223.trans (congrArg some (by kernel_rfl))⟩
 t0 := Tryz.underlying0
 a0 := Tryz.isAgg0
 z0 := Tryz.sizeOf0
 v0 := Tryz.zeroValue0
 t24 := Tryz.underlying51
 a24 := Tryz.isAgg51
 z24 := Tryz.sizeOf51
 v24 := Tryz.zeroValue51
 t26 := Tryz.underlying3
 a26 := Tryz.isAgg3
 z26 := Tryz.sizeOf3
 v26 := Tryz.zeroValue3
 t28 := Tryz.underlying180
 a28 := Tryz.isAgg180
 z28 := Tryz.sizeOf180
 v28 := Tryz.zeroValue180
 i26 := by kernel_rfl }
def Tryz.sortA_ren : Go.Shelf.Ren := ⟨fun | 5 => 159 | 8 => 225 | 7 => 224 | 19 => 267 | 20 => 268 | 10 => 258 | 11 => 259 | 12 => 260 | 13 => 261 | 14 => 262 | 15 => 263 | 16 => 264 | 17 => 265 | 18 => 266 | 30 => 284 | 31 => 285 | 32 => 286 | 33 => 287 | 34 => 288 | 35 => 289 | 40 => 312 | n => n, fun | 23 => 51 | 25 => 3 | 3 => 3 | 32 => 219 | 22 => 51 | 0 => 0 | 44 => 294 | 46 => 43 | 4 => 4 | 36 => 358 | 35 => 357 | 41 => 189 | 5 => 5 | 9 => 9 | 53 => 371 | 57 => 374 | 63 => 391 | 64 => 392 | n => n, fun | n => n⟩
theorem Tryz.sortA : Go.Proofs.SlLaysM.n5 Tryz.prog Tryz.sortA_ren := {
 mixed := by kernel_rfl
 f5 := ⟨Tryz.f159.name, by decide, Tryz.func159.trans (congrArg some (by kernel_rfl))⟩
 f7 := ⟨Tryz.f224.name, by decide, Tryz.func224.trans (congrArg some (by kernel_rfl))⟩
 f8 := Tryz.func225.trans (congrArg some (by kernel_rfl))
 f10 := ⟨Tryz.f258.name, by decide, Tryz.func258.trans (congrArg some (by kernel_rfl))⟩
 f11 := ⟨Tryz.f259.name, by decide, Tryz.func259.trans (congrArg some (by kernel_rfl))⟩
 f12 := ⟨Tryz.f260.name, by decide, Tryz.func260.trans (congrArg some (by kernel_rfl))⟩
 f13 := ⟨Tryz.f261.name, by decide, Tryz.func261.trans (congrArg some (by kernel_rfl))⟩
 f14 := ⟨Tryz.f262.name, by decide, Tryz.func262.trans (congrArg some (by kernel_rfl))⟩
 f15 := ⟨Tryz.f263.name, by decide, Tryz.func263.trans (congrArg some (by kernel_rfl))⟩
 f16 := ⟨Tryz.f264.name, by decide, Tryz.func264.trans (congrArg some (by kernel_rfl))⟩
 f17 := ⟨Tryz.f265.name, by decide, Tryz.func265.trans (congrArg some (by kernel_rfl))⟩
 f18 := ⟨Tryz.f266.name, by decide, Tryz.func266.trans (congrArg some (by kernel_rfl))⟩
 f19 := Tryz.func267.trans (congrArg some (by kernel_rfl))
 f20 := Tryz.func268.trans (congrArg some (by kernel_rfl))
 f30 := ⟨Tryz.f284.name, by decide, Tryz.func284.trans (congrArg some (by kernel_rfl))⟩
 f31 := Tryz.func285.trans (congrArg some (by kernel_rfl))
 f32 := Tryz.func286.trans (congrArg some (by kernel_rfl))
 f33 := ⟨Tryz.f287.name, by decide, Tryz.func287.trans (congrArg some (by kernel_rfl))⟩
 f34 := ⟨Tryz.f288.name, by decide, Tryz.func288.trans (congrArg some (by kernel_rfl))⟩
 f35 := ⟨Tryz.f289.name, by decide, Tryz.func289.trans (congrArg some (by kernel_rfl))⟩
 f40 := ⟨Tryz.f312.name, by decide, Tryz.func312.trans (congrArg some (by kernel_rfl))⟩
 t0 := Tryz.underlying0
 a0 := Tryz.isAgg0
 z0 := Tryz.sizeOf0
 v0 := Tryz.zeroValue0
 t3 := Tryz.underlying3
 a3 := Tryz.isAgg3
 z3 := Tryz.sizeOf3
 v3 := Tryz.zeroValue3
 t4 := Tryz.underlying4
 a4 := Tryz.isAgg4
 z4 := Tryz.sizeOf4
 v4 := Tryz.zeroValue4
 t5 := Tryz.underlying5
 a5 := Tryz.isAgg5
 z5 := Tryz.sizeOf5
 v5 := Tryz.zeroValue5
 t9 := Tryz.underlying9
 a9 := Tryz.isAgg9
 z9 := Tryz.sizeOf9
 v9 := Tryz.zeroValue9
 t22 := Tryz.underlying51
 a22 := Tryz.isAgg51
 z22 := Tryz.sizeOf51
 v22 := Tryz.zeroValue51
 t23 := Tryz.underlying51
 a23 := Tryz.isAgg51
 z23 := Tryz.sizeOf51
 v23 := Tryz.zeroValue51
 t25 := Tryz.underlying3
 a25 := Tryz.isAgg3
 z25 := Tryz.sizeOf3
 v25 := Tryz.zeroValue3
 t32 := Tryz.underlying219
 a32 := Tryz.isAgg219
 z32 := Tryz.sizeOf219
 v32 := Tryz.zeroValue219
 t35 := Tryz.underlying357
 a35 := Tryz.isAgg357
 z35 := Tryz.sizeOf357
 v35 := Tryz.zeroValue357
 t36 := Tryz.underlying358
 a36 := Tryz.isAgg358
 z36 := Tryz.sizeOf358
 v36 := Tryz.zeroValue358
 t41 := Tryz.underlying189
 a41 := Tryz.isAgg189
 z41 := Tryz.sizeOf189
 v41 := Tryz.zeroValue189
 t44 := Tryz.underlying294
 a44 := Tryz.isAgg294
 z44 := Tryz.sizeOf294
 v44 := Tryz.zeroValue294
 t46 := Tryz.underlying43
 a46 := Tryz.isAgg43
 z46 := Tryz.sizeOf43
 v46 := Tryz.zeroValue43
 t53 := Tryz.underlying371
 a53 := Tryz.isAgg371
 z53 := Tryz.sizeOf371
 v53 := Tryz.zeroValue371
 t57 := Tryz.underlying374
 a57 := Tryz.isAgg374
 z57 := Tryz.sizeOf374
 v57 := Tryz.zeroValue374
 t63 := Tryz.underlying391
 a63 := Tryz.isAgg391
 z63 := Tryz.sizeOf391
 v63 := Tryz.zeroValue391
 t64 := Tryz.underlying392
 a64 := Tryz.isAgg392
 z64 := Tryz.sizeOf392
 v64 := Tryz.zeroValue392 }
end Go.Proofs
namespace Go.Proofs.YtalkkhafcfhglaaGreatDoor.Led
open Go.RowKit Go.Maps Go.Sort Go.Shelf
theorem J4w (q : Nat) : AnyZI.SortsIn Tryz.prog Tryz.sortedA_ren Fence.wide q :=
 ⟨fun blk off cap ss W hH hblk hsz => callsIn_wide.2 (AnyM.slices_Sort_int Tryz.sortA blk off cap ss W hH hblk hsz),
  fun p cap W => callsIn_wide.2 (AnyM.slices_Sort_int_none Tryz.sortA p cap W)⟩
theorem Jnu (us : List Int) : intKeys (setD (H := Unit) us) = us := by
 unfold setD intKeys;simp only [List.map_map]
 conv => rhs; rw [<- List.map_id us]
 apply List.map_congr_left;intro x _; rfl
theorem sorted_perm {us ss : List Int} (hr : Rising us) (hp : ss.Perm us) : ss.mergeSort (fun x y => decide (x <= y)) = us := by
 have h1 : (ss.mergeSort (fun x y => decide (x <= y))).Perm us := (List.mergeSort_perm _ _).trans hp;have h2 := List.pairwise_mergeSort (le := fun x y : Int => decide (x <= y)) (fun a b c h1 h2 => by simp at *; omega) (fun a b => by simp; omega) ss;refine Jc4 ?_ hr (fun x => h1.mem_iff);have hn : (ss.mergeSort (fun x y => decide (x <= y))).Nodup := h1.symm.nodup hr.nodup;unfold Rising;rw [List.pairwise_iff_getElem] at h2 ⊢;intro i j hi hj hij;have a := h2 i j hi hj hij;have b := (List.pairwise_iff_getElem.1 hn) i j hi hj hij;simp at a; omega
end Go.Proofs.YtalkkhafcfhglaaGreatDoor.Led
