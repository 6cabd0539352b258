/-
  Several texts in one: Lay, Res, StoH.
-/
import Derived.Test.YtalkkhafcfhglaaGreatDoorQ27
set_option maxRecDepth 100000
set_option maxHeartbeats 4000000
namespace Go.Proofs.YtalkkhafcfhglaaGreatDoor
open Go.RowKit
structure LayW (w0 w : World) (g : Nat) (l : List UInt8) : Prop where
 at_ : PkAt w w0.heap.size g l
 below : Below w0.heap.size w0 w
section
variable {w0 w w' : World} {g : Nat} {l l' : List UInt8}
theorem LayW.new (w0 : World) : LayW w0 (w0.alloc (.cells #[.int .i64 0, .slice none 0 0] 307)) w0.heap.size [] := ⟨PkAt.new w0 _ (Nat.le_refl _), (Below.refl _ _).alloc (Nat.le_refl _) _⟩
theorem LayW.then_below (h : LayW w0 w g l) (hb : Below w.heap.size w w') : LayW w0 w' g l := ⟨h.at_.below hb, h.below.trans (hb.mono h.below.size)⟩
theorem LayW.lt (h : LayW w0 w g l) : g < w.heap.size := h.at_.lt
theorem LayW.size (h : LayW w0 w g l) : w0.heap.size <= w.heap.size := h.below.size
theorem LayW.bx {b : Nat} {T : TypeId} {cs : Array Value} (h : LayW w0 w g l) (hx : Bx w0 b T cs) : Bx w b T cs := hx.below h.below
theorem LayW.sl {A : Option Addr} {xs : List Value} (h : LayW w0 w g l) (hx : Sl w0 A xs) : Sl w A xs := hx.below h.below
theorem LayW.st {w1 : World} (h : LayW w0 w g l) (hb : Below w.heap.size w w1) (hp : PkAt w' w0.heap.size g l') (hs : PkSt w0.heap.size g w1 w') : LayW w0 w' g l' :=
 ⟨hp, (h.below.trans (hb.mono h.below.size)).trans (hs.below (Nat.le_refl _) h.at_.low (Nat.le_trans h.below.size hb.size))⟩
theorem LayW.arg (h : LayW w0 w g l) (T : TypeId) (cs : Array Value) (hT : T ≠ 5) : Jgm (w.alloc (.cells cs T)) w0.heap.size g (some ⟨w.heap.size, 0, none⟩) := Jgm.new cs hT h.lt
theorem LayW.old {A : Option Addr} {xs : List Value} (h : LayW w0 w g l) (hx : Sl w0 A xs) (hne : xs ≠ []) : Jgm w w0.heap.size g A := by
 obtain ⟨b, off, rfl, hb, _⟩ := hx.at_ hne;refine ⟨fun a e => ?_⟩;cases e
 have := h.below.size;have := h.at_.low;exact ⟨by show b < _; omega, by show b ≠ g; omega, .inl hb⟩
theorem LayW.words (h : LayW w0 w g l) (vs : List Nat) (n c : Nat) (cs : Array Value) (hcs : cs.toList = vs.map fun v : Nat => Value.int .u64 (v : Int)) (hn : vs.length = n) (hl : l.length + 8 * n <= 900000) :
  Calls Tryz.prog 195 #[.pointer (some ⟨g, 0, none⟩), .slice (some ⟨w.heap.size, 0, none⟩) n c] (w.alloc (.cells cs 43)) fun e w' => e = .returned (.tuple #[]) /\ LayW w0 w' g (l ++ vs.flatMap (le 8)) := by
 have hb := (Below.refl w.heap.size w).alloc (Nat.le_refl _) (.cells cs 43);refine (Jhb w0.heap.size g _ n c vs l _ (h.at_.below hb) (h.arg _ cs (by decide)) (Sl.new w _ _ _ cs rfl hcs) hn hl (Nat.le_trans h.size hb.size)).mono ?_;rintro e w' ⟨rfl, hp, hs⟩;exact ⟨rfl, h.st hb hp hs⟩
theorem LayW.ints (h : LayW w0 w g l) (vs : List Int) (n c : Nat) (cs : Array Value) (hcs : cs.toList = vs.map (Value.int .i64)) (hn : vs.length = n) (hl : l.length + 8 * n <= 800000) :
  Calls Tryz.prog 196 #[.pointer (some ⟨g, 0, none⟩), .slice (some ⟨w.heap.size, 0, none⟩) n c] (w.alloc (.cells cs 3)) fun e w' => e = .returned (.tuple #[]) /\ LayW w0 w' g (l ++ vs.flatMap fun v => le 8 (u64 v)) := by
 have hb := (Below.refl w.heap.size w).alloc (Nat.le_refl _) (.cells cs 3);refine (Jm0 w0.heap.size g _ n c vs l _ (h.at_.below hb) (h.arg _ cs (by decide)) (Sl.new w _ _ _ cs rfl hcs) hn hl (Nat.le_trans h.size hb.size)).mono ?_;rintro e w' ⟨rfl, hp, hs⟩;exact ⟨rfl, h.st hb hp hs⟩
theorem LayW.small (h : LayW w0 w g l) (size : Nat) (hz : Jds size) (vs : List Nat) (hv : ∀ v ∈ vs, v < 256 ^ size) (n c : Nat) (cs : Array Value) (hcs : cs.toList = vs.map fun v : Nat => Value.int .i64 (v : Int)) (hn : vs.length = n) (hl : l.length + 4 * n <= 900000) :
  Calls Tryz.prog 206 #[.pointer (some ⟨g, 0, none⟩), .int .i64 (size : Int), .slice (some ⟨w.heap.size, 0, none⟩) n c] (w.alloc (.cells cs 3)) fun e w' => e = .returned (.tuple #[]) /\ LayW w0 w' g (l ++ vs.flatMap (le size)) := by
 have hb := (Below.refl w.heap.size w).alloc (Nat.le_refl _) (.cells cs 3);refine (Jfg w0.heap.size g size _ n c vs l _ (h.at_.below hb) hz hv (h.arg _ cs (by decide)) (Sl.new w _ _ _ cs rfl hcs) hn hl (Nat.le_trans h.size hb.size)).mono ?_;rintro e w' ⟨rfl, hp, hs⟩;exact ⟨rfl, h.st hb hp hs⟩
theorem LayW.names (h : LayW w0 w g l) (ss : List ByteArray) (hz : ∀ s ∈ ss, s.size <= 15) (n c : Nat) (cs : Array Value) (hcs : cs.toList = ss.map Value.string) (hn : ss.length = n) (hl : l.length + 16 * n <= 600000) :
  Calls Tryz.prog 283 #[.pointer (some ⟨g, 0, none⟩), .slice (some ⟨w.heap.size, 0, none⟩) n c] (w.alloc (.cells cs 9)) fun e w' => e = .returned (.tuple #[]) /\ LayW w0 w' g (l ++ ss.flatMap fun s => nmB s.toList) := by
 have hb := (Below.refl w.heap.size w).alloc (Nat.le_refl _) (.cells cs 9);refine (Jxa w0.heap.size g _ n c ss l _ (h.at_.below hb) hz (h.arg _ cs (by decide)) (Sl.new w _ _ _ cs rfl hcs) hn hl (Nat.le_trans h.size hb.size)).mono ?_;rintro e w' ⟨rfl, hp, hs⟩;exact ⟨rfl, h.st hb hp hs⟩
theorem LayW.text (h : LayW w0 w g l) (s : ByteArray) (hl : l.length <= 600000) (hs : s.size <= 60000) :
  Calls Tryz.prog 205 #[.pointer (some ⟨g, 0, none⟩), .string s] w fun e w' => e = .returned (.tuple #[]) /\ LayW w0 w' g (l ++ txB s.toList) := by
 refine (J0z w0.heap.size g s l w h.at_ hl hs h.size).mono ?_;rintro e w' ⟨rfl, hp, hs⟩;exact ⟨rfl, h.st (Below.refl _ _) hp hs⟩
theorem LayW.fill (h : LayW w0 w g l) (n : Nat) (hl : l.length <= n) (hn : n <= 60000) :
  Calls Tryz.prog 197 #[.pointer (some ⟨g, 0, none⟩), .int .i64 (n : Int)] w fun e w' => e = .returned (.tuple #[]) /\ LayW w0 w' g (l ++ zeros (n - l.length)) := by
 refine (Jsb w0.heap.size g n l w h.at_ hl hn h.size).mono ?_;rintro e w' ⟨rfl, hp, hs⟩;exact ⟨rfl, h.st (Below.refl _ _) hp hs⟩
theorem LayW.done (h : LayW w0 w g l) : Calls Tryz.prog 198 #[.pointer (some ⟨g, 0, none⟩)] w fun e w' => e = .returned (.tuple #[.string (strOf l), .int .i64 0]) /\ w = w' := Jm1 _ _ _ w h.at_
end
theorem LayW.words0 (w : World) (vs : List Nat) (n c : Nat) (cs : Array Value) (hcs : cs.toList = vs.map fun v : Nat => Value.int .u64 (v : Int)) (hn : vs.length = n) (hl : 8 * n <= 900000) :
  Calls Tryz.prog 195 #[.pointer (some ⟨w.heap.size, 0, none⟩), .slice (some ⟨w.heap.size + 1, 0, none⟩) n c] ((w.alloc (.cells #[.int .i64 0, .slice none 0 0] 307)).alloc (.cells cs 43)) fun e w' => e = .returned (.tuple #[]) /\ LayW w w' w.heap.size (vs.flatMap (le 8)) := by
 have h := (LayW.new w).words vs n c cs hcs hn (by simpa using hl);rw [show (w.alloc (.cells #[.int .i64 0, .slice none 0 0] 307)).heap.size = w.heap.size + 1 from by simp, List.nil_append] at h;exact h
theorem LayW.ints0 (w : World) (vs : List Int) (n c : Nat) (cs : Array Value) (hcs : cs.toList = vs.map (Value.int .i64)) (hn : vs.length = n) (hl : 8 * n <= 800000) :
  Calls Tryz.prog 196 #[.pointer (some ⟨w.heap.size, 0, none⟩), .slice (some ⟨w.heap.size + 1, 0, none⟩) n c] ((w.alloc (.cells #[.int .i64 0, .slice none 0 0] 307)).alloc (.cells cs 3)) fun e w' => e = .returned (.tuple #[]) /\ LayW w w' w.heap.size (vs.flatMap fun v => le 8 (u64 v)) := by
 have h := (LayW.new w).ints vs n c cs hcs hn (by simpa using hl);rw [show (w.alloc (.cells #[.int .i64 0, .slice none 0 0] 307)).heap.size = w.heap.size + 1 from by simp, List.nil_append] at h;exact h
theorem LayW.names0 (w : World) (ss : List ByteArray) (hz : ∀ s ∈ ss, s.size <= 15) (n c : Nat) (cs : Array Value) (hcs : cs.toList = ss.map Value.string) (hn : ss.length = n) (hl : 16 * n <= 600000) :
  Calls Tryz.prog 283 #[.pointer (some ⟨w.heap.size, 0, none⟩), .slice (some ⟨w.heap.size + 1, 0, none⟩) n c] ((w.alloc (.cells #[.int .i64 0, .slice none 0 0] 307)).alloc (.cells cs 9)) fun e w' => e = .returned (.tuple #[]) /\ LayW w w' w.heap.size (ss.flatMap fun s => nmB s.toList) := by
 have h := (LayW.new w).names ss hz n c cs hcs hn (by simpa using hl);rw [show (w.alloc (.cells #[.int .i64 0, .slice none 0 0] 307)).heap.size = w.heap.size + 1 from by simp, List.nil_append] at h;exact h
theorem LayW.fill0 (w : World) (n : Nat) (hn : n <= 60000) :
  Calls Tryz.prog 197 #[.pointer (some ⟨w.heap.size, 0, none⟩), .int .i64 (n : Int)] (w.alloc (.cells #[.int .i64 0, .slice none 0 0] 307)) fun e w' => e = .returned (.tuple #[]) /\ LayW w w' w.heap.size (zeros n) := (LayW.new w).fill n (Nat.zero_le _) hn
structure ReadW (w0 w : World) (g : Nat) (l : List UInt8) : Prop where
 at_ : UnAt w g l
 low : w0.heap.size <= g
 below : Below w0.heap.size w0 w
section
variable {w0 w w' : World} {g : Nat} {l r : List UInt8}
theorem ReadW.grown (h : ReadW w0 w g l) (hu : UnAt w' g r) (hg : w.grownBy w' (some g)) : ReadW w0 w' g r :=
 ⟨hu, h.low, h.below.trans ⟨hg.os, hg.tape, hg.output, hg.size, fun b hb => hg.block b (Nat.lt_of_lt_of_le hb h.below.size) (fun e => by cases e; have := h.low; omega)⟩⟩
theorem ReadW.then_below (h : ReadW w0 w g l) (hb : Below w.heap.size w w') : ReadW w0 w' g l := ⟨h.at_.below hb, h.low, h.below.trans (hb.mono h.below.size)⟩
theorem ReadW.from_ (w0 : World) (hb : Below w0.heap.size w0 w) (l : List UInt8) (hl : l.length <= 900000) : Calls Tryz.prog 125 #[.string (strOf l)] w fun e w' => ∃ g, e = .returned (.pointer (some ⟨g, 0, none⟩)) /\ ReadW w0 w' g l := by
 refine (Jo4 l w hl).mono ?_;rintro e w' ⟨g, rfl, hlow, hu, hb2⟩;exact ⟨g, rfl, hu, Nat.le_trans hb.size hlow, hb.trans (hb2.mono hb.size)⟩
theorem ReadW.word (v : Nat) (r : List UInt8) (h : ReadW w0 w g (le 8 v ++ r)) (hv : v < 18446744073709551616) (hl : r.length <= 900000) :
  Calls Tryz.prog 126 #[.pointer (some ⟨g, 0, none⟩)] w fun e w' => e = .returned (.int .u64 (v : Int)) /\ ReadW w0 w' g r := by
 refine (Jhd g v r w h.at_ hv hl).mono ?_;rintro e w' ⟨rfl, hu, hg⟩;exact ⟨rfl, h.grown hu hg⟩
theorem ReadW.int (n : Int) (r : List UInt8) (h : ReadW w0 w g (le 8 (u64 n) ++ r)) (hn : -9223372036854775808 <= n /\ n <= 9223372036854775807) (hl : r.length <= 900000) :
  Calls Tryz.prog 127 #[.pointer (some ⟨g, 0, none⟩)] w fun e w' => e = .returned (.int .i64 n) /\ ReadW w0 w' g r := by
 refine (Jjz g n r w h.at_ hn hl).mono ?_;rintro e w' ⟨rfl, hu, hg⟩;exact ⟨rfl, h.grown hu hg⟩
theorem ReadW.small (size v : Nat) (r : List UInt8) (h : ReadW w0 w g (le size v ++ r)) (hs : Jds size) (hv : v < 256 ^ size) (hl : r.length <= 900000) :
  Calls Tryz.prog 131 #[.pointer (some ⟨g, 0, none⟩), .int .i64 (size : Int)] w fun e w' => e = .returned (.int .i64 (v : Int)) /\ ReadW w0 w' g r := by
 refine (Jck g size v r w h.at_ hs hv hl).mono ?_;rintro e w' ⟨rfl, hu, hg⟩;exact ⟨rfl, h.grown hu hg⟩
theorem ReadW.name (s r : List UInt8) (h : ReadW w0 w g (nmB s ++ r)) (hs : s.length <= 15) (hl : r.length <= 800000) :
  Calls Tryz.prog 249 #[.pointer (some ⟨g, 0, none⟩)] w fun e w' => e = .returned (.string (strOf s)) /\ ReadW w0 w' g r := by
 refine (Jxe g s r w h.at_ hs hl).mono ?_;rintro e w' ⟨rfl, hu, hg⟩;exact ⟨rfl, h.grown hu hg⟩
end
def putC (w : World) (g : Nat) : Nat -> List Value -> World
 | _, [] => w
 | i, v :: r => putC (w.setCell ⟨g, i, none⟩ v) g (i + 1) r
section
variable {w : World} {g B : Nat} {T : TypeId}
theorem Jxi (vs : List Value) (l : List Value) : ∀ (w : World) (pre : List Value), Bx w g T (pre ++ l).toArray -> vs.length = l.length -> Bx (putC w g pre.length vs) g T (pre ++ vs).toArray := by
 induction vs generalizing l with
 | nil =>
   intro w pre h hl;have : l = [] := List.eq_nil_of_length_eq_zero (by simpa using hl.symm);subst this;exact h
 | cons v r ih =>
   intro w pre h hl;cases l with
   | nil => simp at hl
   | cons u t =>
     have h2 := h.set pre.length v
     have e : (pre ++ u :: t).toArray.setIfInBounds pre.length v = ((pre ++ [v]) ++ t).toArray := by
      apply Array.ext'
      simp
     rw [e] at h2;have := ih t (w.setCell ⟨g, pre.length, none⟩ v) (pre ++ [v]) h2 (by simpa using hl);rw [List.length_append] at this
     simpa [putC] using this
theorem Jbv {cs : Array Value} (h : Bx w g T cs) (vs : List Value) (hl : vs.length = cs.size) : Bx (putC w g 0 vs) g T vs.toArray := by
 have := Jxi (g := g) (T := T) vs cs.toList w [] (by simpa using h) (by simpa using hl)
 simpa using this
theorem Jar (vs : List Value) (hB : B <= g) : ∀ (w : World) (i : Nat), Below B w (putC w g i vs) := by
 induction vs with
 | nil => intro w i; exact Below.refl _ _
 | cons v r ih =>
   intro w i;exact ((Below.refl B w).setCell (p := ⟨g, i, none⟩) hB v).trans (ih _ _)
theorem Jdt (vs : List Value) : ∀ (w : World) (i : Nat), Chg (fun b => b = g) w (putC w g i vs) := by
 induction vs with
 | nil => intro w i; exact Chg.refl _ _
 | cons v r ih =>
   intro w i;exact (Chg.set (F := fun b => b = g) w ⟨g, i, none⟩ v rfl).trans (ih _ _) (fun _ h => .inl h)
end
def usOf (ps : List Pm) : List Int := ps.foldl (fun us p => Led.insAll us p.e.bl) []
def Jcy (ps : List Pm) : Option (List Int) := if ps = [] then none else some (usOf ps)
def mapOf (ps : List Pm) : Nat -> Nat -> Option PRaw := ps.foldl (fun f p => setP f p.e.tier p.e.shard p.raw) (fun _ _ => none)
theorem Jhg (ps : List Pm) (p : Pm) : usOf (ps ++ [p]) = Led.insAll (usOf ps) p.e.bl := by simp [usOf]
theorem Jqr (ps : List Pm) (p : Pm) : Jcy (ps ++ [p]) = some (Led.insAll ((Jcy ps).getD []) p.e.bl) := by
 unfold Jcy;rw [if_neg (by simp), Jhg];by_cases h : ps = []
 · subst h; rfl
 · rw [if_neg h]; rfl
theorem Jt9 (ps : List Pm) (p : Pm) : mapOf (ps ++ [p]) = setP (mapOf ps) p.e.tier p.e.shard p.raw := by simp [mapOf]
theorem J07 (ps : List Pm) (z : Int) : z ∈ usOf ps ↔ ∃ p ∈ ps, z ∈ p.e.bl := by
 obtain ⟨qs, rfl⟩ : ∃ qs : List Pm, ps = qs.reverse := ⟨ps.reverse, by simp⟩
 induction qs with
 | nil => simp [usOf]
 | cons p r ih =>
   rw [List.reverse_cons, Jhg, Led.mem_insAll, ih];constructor
   · rintro (⟨x, hx, hz⟩ | hz)
     · exact ⟨x, List.mem_append_left _ hx, hz⟩
     · exact ⟨p, by simp, hz⟩
   · rintro ⟨x, hx, hz⟩
     rcases List.mem_append.1 hx with hx | hx
     · exact .inl ⟨x, hx, hz⟩
     · rw [List.mem_singleton.1 hx] at hz; exact .inr hz
structure Jj0 (D N : Nat) (ps : List Pm) : Prop where
 tier : ∀ p ∈ ps, p.e.tier < 5
 shard : ∀ p ∈ ps, p.e.shard <= 7
 ne : ∀ p ∈ ps, p.e.bl ≠ []
 bl : ∀ p ∈ ps, ∀ z ∈ p.e.bl, (D : Int) <= z /\ z < (N : Int)
 nodup : (ps.flatMap fun p => p.e.bl).Nodup
theorem Jj0.at_ {D N : Nat} {ps : List Pm} (h : Jj0 D N ps) {k : Nat} (hk : k < ps.length) : (ps[k]).e.bl.Nodup /\ ∀ z ∈ (ps[k]).e.bl, z ∉ usOf (ps.take k) := by
 have h1 := h.nodup;rw [<- List.take_append_drop k ps, List.drop_eq_getElem_cons hk, List.flatMap_append, List.flatMap_cons] at h1;have h2 := List.nodup_append.1 h1;refine ⟨(List.nodup_append.1 h2.2.1).1, fun z hz hu => ?_⟩;obtain ⟨p, hp, hz'⟩ := (J07 _ _).1 hu;exact h2.2.2 z (List.mem_flatMap.2 ⟨p, hp, hz'⟩) z (List.mem_append_left _ hz) rfl
structure HdS (w wr : World) (FB : Nat -> Prop) (g mp bk k : Nat) (cs : Array Value) (f : Nat -> Nat -> Option PRaw) (D N : Nat) (us : List Int) (b : Option (List Int)) : Prop where
 box : Bx wr g 48 cs
 map : PMap wr mp k f
 book : Led.BookAt wr FB bk (D : Int) ((N - D : Nat) : Int) us (Led.w3 none b none)
 chg : Chg (fun x => x = g) w wr
 low : w.heap.size <= mp /\ ∀ x, FB x -> w.heap.size <= x
 ne : ¬ FB mp
theorem Jxj {F : Nat -> Prop} {g N C B D R gen id mp0 bk0 n c : Nat} {d : Addr} {lg : Option Addr} {bad : Int} {A : Option Addr} {ps : List Pm} (w : World)
  (hX : Bx w g 48 (Jcv N C B D R d gen id mp0 bk0 lg bad)) (hL : Jex N C B D R) (hP : Jf3 w F A n ps) (hg : ¬ F g) (hok : Jj0 D N ps) (hn : n <= 1000) :
  Calls Tryz.prog 34 #[.pointer (some ⟨g, 0, none⟩), .slice A n c] w fun e w' => e = .returned (.tuple #[]) /\ ∃ mp bk FB, HdS w w' FB g mp bk n (Jcv N C B D R d gen id mp bk lg bad) (mapOf ps) D N (usOf ps) (Jcy ps) /\ ∀ x, FB x -> x < w'.heap.size := by
 have hDN : 38 <= D /\ D <= N /\ N <= 4096 := by have := hL.bd; have := hL.n; omega
 have HDN := zI hDN;have HPS := zI hP;have HLN := zI hP.len;have HOK := zI hok;have hmm := @run_makeMap Tryz.prog;have hgl := hX.lt;have HSB := zI (show (N : Int) - (D : Int) = ((N - D : Nat) : Int) from by omega);have hwr : IntKind.i64.wrap ((N : Int) - (D : Int)) = (N : Int) - (D : Int) := IntWalk.i64_in _ (by omega);obtain ⟨mp, hmp⟩ : ∃ mp, mp = w.heap.size := ⟨_, rfl⟩;obtain ⟨w1, hw1⟩ : ∃ w1, w1 = (w.setCell ⟨g, 10, none⟩ (.map (some w.heap.size))).alloc (.map #[] 0) := ⟨_, rfl⟩;have hs0 : (w.setCell ⟨g, 10, none⟩ (.map (some w.heap.size))).heap.size = w.heap.size := by simp
 have hx1 : Bx w1 g 48 (Jcv N C B D R d gen id mp bk0 lg bad) := by rw [hw1, hmp]; exact (hX.set 10 (.map (some w.heap.size))).alloc _
 have hm1 : PMap w1 mp 0 (fun _ _ => none) := by
  have := PMap.made (w.setCell ⟨g, 10, none⟩ (.map (some w.heap.size)));rw [hs0] at this;rw [hw1, hmp];exact this
 have hc1 : Chg (fun b => b = g) w w1 := by
  rw [hw1];exact (Chg.set (F := fun b => b = g) w ⟨g, 10, none⟩ (.map (some w.heap.size)) rfl).then_below ((Below.refl _ _).alloc (Nat.le_refl _) _)
 have a10 := hX.at_ 10 (v := .map (some mp0)) rfl;have f10 := hX.free 10;have HX1 := zI hx1;have HM1 := zI hm1;have HC1 := zI hc1;have HW1 := zI hw1;have HMP := zI hmp;have HBN := zI (Led.book_new (D : Int) ((N : Int) - (D : Int)) w1.drew (by omega) (by omega));clear hX hP hok hmp hw1 hs0 hx1 hm1 hc1;go_enter Tryz.func34, Tryz.ntmps34;go_upto_region 1 with fail
 rw [<- HW1.out];clear a10 f10;have hdr := (Below.refl w1.heap.size w1).drew;have z0 := (HX1.out.below hdr).at_ 0 (v := .int .i64 (N : Int)) rfl;have z5 := (HX1.out.below hdr).at_ 5 (v := .int .i64 (D : Int)) rfl;clear hdr
 go_region_held3 (fun w' => w'.cell? ⟨g, 0, none⟩ = some (.int .i64 (N : Int)) /\ w'.cell? ⟨g, 5, none⟩ = some (.int .i64 (D : Int)))
  (first
    | exact ⟨z0, z5⟩
    | exact ⟨hx3.at_ 0 rfl, hx3.at_ 5 rfl⟩
    | exact ⟨(hx3.set 11 (.pointer (some ⟨bk, 0, none⟩))).at_ 0 rfl, (hx3.set 11 (.pointer (some ⟨bk, 0, none⟩))).at_ 5 rfl⟩)
  (first
    | (go_at_call 59
       refine HBN.out.mono ?_;rintro e w3 ⟨bk, rfl, hbk, hb3⟩;have hx3 := (HX1.out.drew).below hb3;have a11 := hx3.at_ 11 (v := .pointer (some ⟨bk0, 0, none⟩)) rfl;have f11 := hx3.free 11))
 go_split_ands;rw [HSB.out] at hbk;have hs1 := HC1.out.size;have hmp1 := HM1.out.lt;have hdr3 : Below w1.heap.size w1 w3 := (Below.refl _ _).drew.trans (hb3.mono (by simp))
 have HS4 := zI (show HdS w (w3.setCell ⟨g, 11, none⟩ (.pointer (some ⟨bk, 0, none⟩))) (made w1.drew w3) g mp bk 0 (Jcv N C B D R d gen id mp bk lg bad) (fun _ _ => none) D N [] none from
  ⟨hx3.set 11 _, (HM1.out.below hdr3).chg (Chg.set (F := fun b => b = g) w3 ⟨g, 11, none⟩ _ rfl) (by have := HX1.out.lt; have := HMP.out; omega),
   hbk.chg (Chg.set (F := fun b => b = g) w3 ⟨g, 11, none⟩ _ rfl) (fun b hb e => by have := hb.1; have := HX1.out.lt; simp at *; omega),
   (HC1.out.then_below hdr3).trans (Chg.set (F := fun b => b = g) w3 ⟨g, 11, none⟩ _ rfl) (fun _ h => .inl h),
   ⟨by have := HMP.out; omega, fun b hb => by have := hb.1; simp at this; omega⟩, fun hb => by have := hb.1; simp at this; omega⟩)
 have HIN4 := zI (show ∀ b, made w1.drew w3 b -> b < (w3.setCell ⟨g, 11, none⟩ (.pointer (some ⟨bk, 0, none⟩))).heap.size from fun b hb => by have := hb.2; simp; omega);clear hbk hb3 hx3 hdr3 a11 f11 z0 z5;go_wp2_with fail
 obtain ⟨w4, hw4⟩ : ∃ w4, w4 = w3.setCell ⟨g, 11, none⟩ (.pointer (some ⟨bk, 0, none⟩)) := ⟨_, rfl⟩;rw [<- hw4] at HS4 HIN4 ⊢;clear hw4;go_loopw [32] (fun j wr => ∃ (k : Nat) (FB : Nat -> Prop), k <= n /\ j = .int .i64 (k : Int) /\ HdS w wr FB g mp bk k (Jcv N C B D R d gen id mp bk lg bad) (mapOf (ps.take k)) D N (usOf (ps.take k)) (Jcy (ps.take k)) /\ ∀ x, FB x -> x < wr.heap.size) (fun j _ => n - (intOf j).toNat)
 case atStart => exact ⟨0, _, Nat.zero_le _, rfl, HS4.out, HIN4.out⟩
 case round =>
  obtain ⟨k, FB, hk, rfl, hS, hI⟩ := hrel;by_cases hlt : k < n
  · have K : k < ps.length := by rw [HLN.out]; exact hlt
    have hps := HPS.out.chg hS.chg (fun b hb e => hg (by rw [<- e]; exact hb));obtain ⟨b, off, rfl, hbl, hcl⟩ := hps.get K;have HRW := zI (HPS.out.row _ (List.getElem_mem K));have HTR := zI (HOK.out.tier _ (List.getElem_mem K));have HSD := zI (HOK.out.shard _ (List.getElem_mem K));have HNE := zI (HOK.out.ne _ (List.getElem_mem K));have HBL := zI (HOK.out.bl _ (List.getElem_mem K));have HAT := zI (HOK.out.at_ K);have HTK := zI (show ps.take (k + 1) = ps.take k ++ [ps[k]] from List.take_succ_eq_append_getElem K);generalize ps[k]'K = x at *;have HU1 := zI (Jhg (ps.take k) x);have HL1 := zI (Jqr (ps.take k) x);have HM1 := zI (Jt9 (ps.take k) x);rw [<- HTK.out] at HU1 HL1 HM1;generalize usOf (ps.take k) = us at *;generalize Jcy (ps.take k) = lv at *;generalize mapOf (ps.take k) = mf at *;obtain ⟨⟨id', tier, shard, bl⟩, l, A5, c5, A6, c6⟩ := x;obtain ⟨r0, r1, r2, r3, r4, r5, r6⟩ := hcl;unfold Pm.raw at r0 r1 r2 r3 r4 r5 r6 HM1;dsimp only at r0 r1 r2 r3 r4 r5 r6 HM1 HRW HTR HSD HNE HBL HAT HU1 HL1;obtain ⟨m, hm⟩ : ∃ m, m = bl.length := ⟨_, rfl⟩;rw [<- hm] at r4 r5 HM1;have HM := zI hm;obtain ⟨m2, hm2⟩ : ∃ m2, m2 = l.length := ⟨_, rfl⟩;rw [<- hm2] at r6 HM1;have HMM := zI hm2;have htr : tier < 5 := HTR.out;have hsd : shard <= 7 := HSD.out;have hba := (Below.refl wr.heap.size wr).alloc (Nat.le_refl _) (.cells #[.int .u64 (id' : Int), .int .i64 (tier : Int), .int .i64 (shard : Int), .int .i64 0, .int .i64 (m : Int), .slice (adr A5) m c5, .slice (adr A6) m2 c6] 144);have hbx := Bx.new wr 144 #[.int .u64 (id' : Int), .int .i64 (tier : Int), .int .i64 (shard : Int), .int .i64 0, .int .i64 (m : Int), .slice (adr A5) m c5, .slice (adr A6) m2 c6];obtain ⟨gb, hgb⟩ : ∃ gb, gb = wr.heap.size := ⟨_, rfl⟩;obtain ⟨w5, hw5⟩ : ∃ w5, w5 = wr.alloc (.cells #[.int .u64 (id' : Int), .int .i64 (tier : Int), .int .i64 (shard : Int), .int .i64 0, .int .i64 (m : Int), .slice (adr A5) m c5, .slice (adr A6) m2 c6] 144) := ⟨_, rfl⟩;rw [<- hw5] at hba hbx;rw [<- hgb] at hbx;have hb5 := hba.trans ((Below.refl w5.heap.size w5).drew.mono hba.size);have hx5 := hS.box.below hb5;have hm5 := hS.map.below hb5;have hk5 := hS.book.below hb5;have hbx5 := hbx.drew;obtain ⟨w6, hrun, hm6, hg6⟩ := hm5.store (t := tier) (s := shard) (by omega) (by omega) (by omega) ⟨(id' : Int), (tier : Int), (shard : Int), 0, (m : Int), A5, m, c5, A6, m2, c6⟩;have HGB := zI hgb;have HW5 := zI hw5;have hlow := hS.low;have hne := hS.ne;have hmpl := hS.map.lt;have HX6 := zI (hx5.grown hg6 (by simp; omega));have HBX6 := zI (hbx5.grown hg6 (by simp; omega));have HK6 := zI (hk5.chg (Chg.of_grown (F := fun b => b = mp) hg6 (fun b e => by cases e; rfl)) (fun b hb e => hne (by rw [<- e]; exact hb)));have HM6 := zI hm6;have HC6 := zI ((hS.chg.then_below hb5).trans (Chg.of_grown (F := fun b => b = mp) hg6 (fun b e => by cases e; rfl)) (fun b e => .inr (by rw [e]; exact hlow.1)));have y0 := hbx5.at_ 1 (v := .int .i64 (tier : Int)) rfl;have x10 := hx5.at_ 10 (v := .map (some mp)) rfl;have y2 := hbx5.at_ 2 (v := .int .i64 (shard : Int)) rfl;have y3 := hbx5.at_ 0 (v := .int .u64 (id' : Int)) rfl;have y4 := hbx5.at_ 3 (v := .int .i64 0) rfl;have y5 := hbx5.at_ 4 (v := .int .i64 (m : Int)) rfl;have y6 := hbx5.at_ 5 (v := .slice (adr A5) m c5) rfl;have y7 := hbx5.at_ 6 (v := .slice (adr A6) m2 c6) rfl;have HSC := zI hS.chg;have HSM := zI (show w.heap.size <= wr.heap.size from hS.chg.size);have hFg : ¬ FB g := fun h => by have := hlow.2 g h; omega
    have hFgb : ¬ FB gb := fun h => by have := hI gb h; omega
    have hz6 := (HRW.out.bl.chg HC6.out (fun a e h => hg (by rw [<- h]; exact HRW.out.inA a e)));rw [<- hm] at hz6
    have hA6 : AIn (fun x => ¬ FB x) (adr A5) := fun a e h => by
     have h0 : bl.map (Value.int .i64) ≠ [] := (by simpa using HNE.out);obtain ⟨zb, zo, e2, hzl, _⟩ := HRW.out.bl.sl.at_ h0;rw [e2] at e;cases e
     have h8 : w.heap.size <= zb := hlow.2 zb h;have h9 : zb < w.heap.size := hzl;omega
    have HTKE := zI (J32 w6.drew (HX6.out.drew) (HK6.out.below (Below.refl _ _).drew) hFg (hz6.below (Below.refl _ _).drew) hA6 HNE.out HAT.out.1 (fun z hz => ⟨(HBL.out z hz).1, (HBL.out z hz).2, HAT.out.2 z hz⟩) HDN.out.2.1 (c := c5));have HFG := zI (And.intro hFg hFgb);have HLO := zI hlow;clear hFg hFgb hz6 hA6;clear hS hI hps hba hbx hgb hw5 hb5 hx5 hm5 hk5 hbx5 hm hm2 hm6 hg6 hlow;go_upto_region 5 with fail
    rw [<- HW5.out, <- HGB.out];clear r0 r1 r2 r3 r4 r5 r6;go_region
    clear y0 y2 y3 y4 y5 y6 y7 x10;have HBD := zI HBX6.out.drew;go_upto_region 6 with fail
    go_region_held3 (fun w' => w'.cell? ⟨gb, 1, none⟩ = some (.int .i64 (tier : Int)) /\ w'.cell? ⟨gb, 5, none⟩ = some (.slice (adr A5) m c5))
     (first
       | exact ⟨HBD.out.at_ 1 rfl, HBD.out.at_ 5 rfl⟩
       | exact ⟨(HBD.out.chg hc8 HFG.out.2).at_ 1 rfl, (HBD.out.chg hc8 HFG.out.2).at_ 5 rfl⟩)
     (first
       | (go_at_call 75
          refine (J06 tier _ htr).mono ?_;rintro e w7 ⟨rfl, rfl⟩)
       | (go_at_call 74
          refine HTKE.out.mono ?_;rintro e w8 ⟨rfl, ⟨F', hB8, hF8⟩, hc8⟩))
    have hd6 := (Below.refl w6.heap.size w6).drew;have hc6 := HC6.out.then_below hd6;have hlo := HLO.out;have hs6 := HC6.out.size
    have HS9 := zI (show HdS w w8 F' g mp bk (k + 1) (Jcv N C B D R d gen id mp bk lg bad) (mapOf (ps.take (k + 1))) D N (usOf (ps.take (k + 1))) (Jcy (ps.take (k + 1))) from by
     rw [HM1.out, HU1.out, HL1.out];refine ⟨(HX6.out.drew).chg hc8 HFG.out.1, (HM6.out.below hd6).chg hc8 hne, hB8, hc6.trans hc8 (fun b hb => .inr (hlo.2 b hb)), ⟨hlo.1, fun b hb => ?_⟩, fun hb => ?_⟩
     · rcases hF8 b hb with h | h
       · exact hlo.2 b h
       · have := h.1; simp at this; omega
     · rcases hF8 mp hb with h | h
       · exact hne h
       · have := h.1; have := HM6.out.lt; simp at *; omega)
    have HI9 := zI (show ∀ b, F' b -> b < w8.heap.size from fun b hb => hB8.ins b hb);clear hB8 hF8 hc8 hd6 hc6;go_split_ands;go_wp2_with fail
    go_roundw
    case rel => exact ⟨k + 1, F', by omega, by go_num, HS9.out, HI9.out⟩
    case measure => simp [intOf]; omega
  · have hke : k = n := by omega
    have HTE := zI (show ps.take k = ps from List.take_of_length_le (by rw [HLN.out]; omega));rw [HTE.out] at hS;subst hke;have HS9 := zI hS;have HI9 := zI hI;clear hS hI;go_wp2_with fail
    go_end0
    exact ⟨rfl, mp, bk, FB, HS9.out, HI9.out⟩
end Go.Proofs.YtalkkhafcfhglaaGreatDoor
