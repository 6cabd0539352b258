/-
  Several texts in one: LedgerB, LedgerT, Grid, Back, Reach, PolI, Reach2.
-/
import Derived.Test.YtalkkhafcfhglaaGreatDoorQ10
set_option maxRecDepth 100000
set_option maxHeartbeats 4000000
namespace Go.Proofs.YtalkkhafcfhglaaGreatDoor.Led
open Go.RowKit Go.Maps
theorem Jbf.keep {w w' : World} {b : Nat} {us : List Int} (h : Jbf w b us) (hb : w'.heap[b]? = w.heap[b]?) : Jbf w' b us := by
 obtain ⟨es, c, h1, h3⟩ := h.own;exact ⟨⟨es, c, hb.trans h1, h3⟩, h.rising⟩
section
variable {w w' : World} {B g m mm : Nat} {f n : Int} {us : List Int} {xs : List Acc}
theorem Jad.keep (h : Jad w B g m mm f n us xs) (hk : ∀ b, b < w.heap.size -> (b = g \/ LedF m mm xs b) -> w'.heap[b]? = w.heap[b]?) : Jad w' B g m mm f n us xs := by
 have hg := hk g h.pool.lt (.inl rfl);have hm := hk m h.pool.set.lt (.inr (LedF.pool _ _ _));have hmm := hk mm h.own.lt (.inr (LedF.map _ _ _));refine ⟨⟨⟨h.pool.blk.keep hg, h.pool.set.keep hm, h.pool.rng, h.pool.ins⟩, (World.cell?_of_block (a := ⟨g, 3, none⟩) hg).trans h.c3, ?_, fun a ha => ?_, h.mem.abs, h.mem.hbs, h.mem.mh, h.mem.mne, h.mem.low⟩, h.law⟩
 · obtain ⟨es, c, h1, h3⟩ := h.own
   exact ⟨es, c, hmm.trans h1, h3⟩
 · have k := h.acc a ha
   exact ⟨(hk a.ab (lt_of_block k.blk) (.inr (LedF.acc ha))).trans k.blk, k.set.keep (hk a.hb k.set.lt (.inr (LedF.held ha))), k.low⟩
theorem Jad.lower (h : Jad w B g m mm f n us xs) : Jad w 0 g m mm f n us xs :=
 ⟨⟨h.mem.pool, h.mem.c3, h.mem.own, fun a ha => ⟨(h.acc a ha).blk, (h.acc a ha).set, Nat.zero_le _, Nat.zero_le _⟩, h.mem.abs, h.mem.hbs, h.mem.mh, h.mem.mne, Nat.zero_le _, Nat.zero_le _, Nat.zero_le _⟩, h.law⟩
theorem Jad.inF (h : Jad w B g m mm f n us xs) {b : Nat} (hb : LedF m mm xs b) : b < w.heap.size := by
 rcases hb with rfl | rfl | ⟨a, ha, rfl | rfl⟩
 · exact h.pool.set.lt
 · exact h.own.lt
 · exact lt_of_block (h.acc a ha).blk
 · exact (h.acc a ha).set.lt
end
def Jkf (vs : List AV) : Int := (vs.map fun v => v.2.1).sum
def Jme (vs : List AV) (nm : List UInt8) : Option AV := vs.find? (fun v => v.1 == nm)
def heldV (vs : List AV) (nm : List UInt8) : List Int := match Jme vs nm with | some v => v.2.2 | none => []
theorem Jn5 (xs : List Acc) (nm : List UInt8) : Jme (view xs) nm = (Ja4 xs nm).map vw := by
 unfold Jme view Ja4;rw [List.find?_map]; rfl
theorem Jee (xs : List Acc) (nm : List UInt8) : Je4 (Ja4 xs nm) = heldV (view xs) nm := by
 unfold heldV;rw [Jn5];cases Ja4 xs nm <;> rfl
theorem Jja (zs : List Int) : (outAll [] zs).2 = [] := by
 apply List.eq_nil_iff_forall_not_mem.2;intro z hz;have := ((Jn0 [] zs).sub z hz).1;simp at this
theorem Jp4 (xs : List Acc) (nm : List UInt8) (zs : List Int) : Jgu xs nm zs = (outAll (heldV (view xs) nm) zs).2 := by
 rw [<- Jee];unfold Jgu;cases Ja4 xs nm with
 | none => exact (Jja zs).symm
 | some a => rfl
theorem Jn6 (xs : List Acc) (nm : List UInt8) (t : ByteArray) (zs : List Int) (ht : 1 <= t.size /\ t.size <= 15) : Jdu xs nm t zs = (outAll (heldV (view xs) nm) zs).2 := by
 rw [<- Jee];unfold Jdu;cases Ja4 xs nm with
 | none => exact (Jja zs).symm
 | some a => exact if_pos ht
structure BookAt (w : World) (F : Nat -> Prop) (g : Nat) (f n : Int) (us : List Int) (vs : List AV) : Prop where
 ex : ∃ m mm xs, Jad w 0 g m mm f n us xs /\ view xs = vs /\ ∀ b, LedF m mm xs b -> F b
 g : F g
 ins : Ins F w
section
variable {w w' : World} {F G : Nat -> Prop} {g : Nat} {f n : Int} {us : List Int} {vs : List AV}
theorem BookAt.chg (h : BookAt w F g f n us vs) (hc : Chg G w w') (hd : Dj F G) : BookAt w' F g f n us vs := by
 obtain ⟨m, mm, xs, hL, hv, hF⟩ := h.ex;exact ⟨⟨m, mm, xs, hL.keep (fun b hb hx => hc.block b hb (by rcases hx with rfl | hx; exact hd _ h.g; exact hd _ (hF b hx))), hv, hF⟩, h.g, h.ins.up hc.size⟩
theorem BookAt.below (h : BookAt w F g f n us vs) (hb : Below w.heap.size w w') : BookAt w' F g f n us vs := h.chg (G := fun _ => False) (Chg.of_below hb) (fun _ _ x => x)
theorem BookAt.few (h : BookAt w F g f n us vs) : 0 <= Jkf vs /\ Jkf vs + us.length <= n /\ n <= 4096 /\ 0 <= f /\ (n = 0 \/ f <= 4096) := by
 obtain ⟨m, mm, xs, hL, rfl, hF⟩ := h.ex;have h1 := hL.few;have h2 : sumL xs = Jkf (view xs) := sumV xs;have h3 := hL.pool.rng;omega
theorem BookAt.rising (h : BookAt w F g f n us vs) : Rising us := by
 obtain ⟨m, mm, xs, hL, rfl, hF⟩ := h.ex;exact hL.pool.set.rising
theorem BookAt.rng (h : BookAt w F g f n us vs) : ∀ z ∈ us, f <= z /\ z < f + n := by
 obtain ⟨m, mm, xs, hL, rfl, hF⟩ := h.ex;exact hL.pool.ins
theorem Jn7 {m mm : Nat} {xs ys : List Acc} {us' : List Int} (hF : ∀ b, LedF m mm xs b -> F b) (hg : F g) (hi : Ins F w) (k : Jad w' 0 g m mm f n us' ys) (hc : Chg (LedF m mm xs) w w') (hf : Jau w.heap.size xs ys) :
  BookAt w' (grow F w w') g f n us' (view ys) /\ Chg F w w' :=
 ⟨⟨⟨m, mm, ys, k, rfl, fun b hb => (hf.inF hb).elim (fun x => .inl (hF b x)) (fun x => .inr ⟨x, k.inF hb⟩)⟩, .inl hg, hi.grow hc.size⟩, hc.sub hF⟩
theorem Jjb {m mm : Nat} {xs ys : List Acc} {us' : List Int} (hF : ∀ b, LedF m mm xs b -> F b) (hg : F g) (hi : Ins F w) (k : Jad w' 0 g m mm f n us' ys) (hc : Chg (LedF m mm xs) w w') (hf : ∀ N, Jau N xs ys) :
  BookAt w' F g f n us' (view ys) /\ Chg F w w' :=
 ⟨⟨⟨m, mm, ys, k, rfl, fun b hb => ((hf w'.heap.size).inF hb).elim (fun x => hF b x) (fun x => absurd (k.inF hb) (by omega))⟩, hg, hi.up hc.size⟩, hc.sub hF⟩
theorem Jrn (xs : List Acc) : (view xs).length = xs.length := by unfold view; simp
theorem book_new (f0 n0 : Int) (w : World) (hf : 0 <= f0 /\ f0 <= 4096) (hn : 0 <= n0 /\ n0 <= 4096) :
  Calls Tryz.prog 59 #[.int .i64 f0, .int .i64 n0] w fun e w' => ∃ g, e = .returned (.pointer (some ⟨g, 0, none⟩)) /\ BookAt w' (made w w') g f0 n0 [] [] /\ Below w.heap.size w w' := by
 refine (Jz2 f0 n0 w (by omega)).mono ?_;rintro e w' ⟨g, m, mm, f, k, rfl, hL, hb, hf', hk'⟩;have e1 : f = f0 := by omega
 have e2 : k = n0 := by rw [hk', if_neg (by omega)]; omega
 subst e1 e2;refine ⟨g, rfl, ⟨⟨m, mm, [], hL.lower, rfl, fun b hx => ?_⟩, ⟨hL.mem.low.1, hL.pool.lt⟩, Ins.made⟩, hb⟩;refine ⟨?_, hL.inF hx⟩;rcases hx with rfl | rfl | ⟨a, ha, _⟩
 · exact hL.mem.low.2.1
 · exact hL.mem.low.2.2
 · simp at ha
theorem reserve_b (s : ByteArray) (k : Int) (w : World) (h : BookAt w F g f n us vs) (hs : 1 <= s.size /\ s.size <= 15) (hk : 0 <= k /\ k <= n - us.length - Jkf vs) (hfew : vs.length < 1000000) :
  Calls Tryz.prog 145 #[.pointer (some ⟨g, 0, none⟩), .string s, .int .i64 k] w fun e w' => e = .returned (.int .i64 0) /\ BookAt w' (grow F w w') g f n us (Jgt vs s.data.toList k) /\ Chg F w w' := by
 have hfw := h.few;obtain ⟨m, mm, xs, hL, rfl, hF⟩ := h.ex;have hv : sumL xs = Jkf (view xs) := sumV xs
 have hE : Jf7 n us xs s k = 0 := by
  unfold Jf7 Jkr;rw [if_neg (by rintro (x | x); omega; exact x hs), if_neg (by rw [hv]; omega)]
 refine (Jp1 s k w hL (by unfold maxLen; omega) (by omega) (Nat.zero_le _) (by rw [<- Jrn]; exact hfew)).mono ?_;rintro e w' ⟨ys, rfl, k2, hvw, _, hc, hff⟩;rw [hE] at hvw ⊢;rw [if_pos rfl] at hvw;obtain ⟨a, b⟩ := Jn7 hF h.g h.ins k2 hc hff;rw [hvw] at a;exact ⟨rfl, a, b⟩
theorem draw_b (s : ByteArray) (k : Int) (w : World) (h : BookAt w F g f n us vs) (hs : s.size <= maxLen) (hk : 0 <= k) {v : AV} (hv : Jme vs s.data.toList = some v) (hkv : k <= v.2.1) :
  Calls Tryz.prog 146 #[.pointer (some ⟨g, 0, none⟩), .string s, .int .i64 k] w fun e w' => ∃ r O, e = .returned (.tuple #[r, .int .i64 0]) /\ O = (freeIn f us n.toNat).take k.toNat /\ w'.ownsRow w.heap.size 3 1 r O.length (O.map (Value.int .i64)) /\ DrawLaw f n us k O /\
   BookAt w' F g f n (insAll us O) (setV vs s.data.toList (Jzy k O)) /\ Chg F w w' := by
 have hfw := h.few;have hris := h.rising;have hrng := h.rng;obtain ⟨m, mm, xs, hL, rfl, hF⟩ := h.ex;rw [Jn5] at hv;obtain ⟨a, hfa, rfl⟩ := Option.map_eq_some_iff.1 hv;have ha := Jbk hfa;have hbd := hL.left_bd ha.1;have hle := Jgf hL.pos ha.1;have hsm : sumL xs = Jkf (view xs) := sumV xs;have hka : k <= a.left := hkv
 have hE : Jct xs s.data.toList k = 0 := by
  unfold Jct;rw [if_neg (by omega), hfa];exact if_neg (by omega)
 have hD := Jvj (f := f) (n := n) (us := us) (k := k) (by omega) hris hrng hk (by omega);have hO : Jed f n us xs s.data.toList k = (freeIn f us n.toNat).take k.toNat := if_pos hE;refine (Jzz s k w hL hs (by omega) (Nat.zero_le _)).mono ?_;rintro e w' ⟨⟨r, ys, rfl, hown, k2, hvw, _, _, hff⟩, hc⟩;rw [hE, if_pos rfl] at hvw;rw [hO] at hvw hown k2;rw [hE];obtain ⟨x, y⟩ := Jjb hF h.g h.ins k2 hc hff;rw [hvw] at x;exact ⟨r, _, rfl, rfl, hown, hD, x, y⟩
theorem return_b (s : ByteArray) (A : Option Addr) (k c : Nat) (zs : List Int) (w : World) (h : BookAt w F g f n us vs) (hs : s.size <= maxLen) (hz : Ints w .i64 A k zs) (hk : k <= 1000000) :
  Calls Tryz.prog 148 #[.pointer (some ⟨g, 0, none⟩), .string s, .slice A k c] w fun e w' => e = .returned (.int .i64 ((outAll (heldV vs s.data.toList) zs).2.length : Int)) /\
   BookAt w' F g f n (lessU us (outAll (heldV vs s.data.toList) zs).2) (setV vs s.data.toList (retV (outAll (heldV vs s.data.toList) zs).2)) /\ Chg F w w' := by
 obtain ⟨m, mm, xs, hL, rfl, hF⟩ := h.ex;refine (Jti s A k c zs w hL hs hz hk (Nat.zero_le _)).mono ?_;rintro e w' ⟨ys, rfl, k2, hvw, _, hc, hff⟩;rw [Jp4] at hvw k2 ⊢;obtain ⟨x, y⟩ := Jjb hF h.g h.ins k2 hc hff;rw [hvw] at x;exact ⟨rfl, x, y⟩
theorem close_b (s : ByteArray) (w : World) (h : BookAt w F g f n us vs) (hs : s.size <= maxLen) :
  Calls Tryz.prog 149 #[.pointer (some ⟨g, 0, none⟩), .string s] w fun e w' => e = .returned (.int .i64 ((heldV vs s.data.toList).length : Int)) /\
   BookAt w' F g f n (lessU us (heldV vs s.data.toList)) (Jkt vs s.data.toList) /\ Chg F w w' := by
 obtain ⟨m, mm, xs, hL, rfl, hF⟩ := h.ex;refine (Jvl s w hL hs (Nat.zero_le _)).mono ?_;rintro e w' ⟨ys, rfl, k2, hvw, _, hc, hff⟩;rw [Jee] at k2 ⊢;obtain ⟨x, y⟩ := Jjb hF h.g h.ins k2 hc hff;rw [hvw] at x;exact ⟨rfl, x, y⟩
theorem move_b (s t : ByteArray) (A : Option Addr) (k c : Nat) (zs : List Int) (w : World) (h : BookAt w F g f n us vs) (hs : s.size <= maxLen) (ht : 1 <= t.size /\ t.size <= 15) (hz : Ints w .i64 A k zs) (hk : k <= 1000000) (hfew : vs.length < 1000000) :
  Calls Tryz.prog 147 #[.pointer (some ⟨g, 0, none⟩), .string s, .string t, .slice A k c] w fun e w' => e = .returned (.int .i64 ((outAll (heldV vs s.data.toList) zs).2.length : Int)) /\
   BookAt w' (grow F w w') g f n us (Jvm vs s.data.toList t.data.toList (outAll (heldV vs s.data.toList) zs).2) /\ Chg F w w' := by
 obtain ⟨m, mm, xs, hL, rfl, hF⟩ := h.ex;refine (Jz1 s t A k c zs w hL hs (by unfold maxLen; omega) hz hk (Nat.zero_le _) (by rw [<- Jrn]; exact hfew)).mono ?_;rintro e w' ⟨ys, rfl, k2, hvw, _, hc, hff⟩;rw [Jn6 _ _ _ _ ht] at hvw ⊢;obtain ⟨x, y⟩ := Jn7 hF h.g h.ins k2 hc hff;rw [hvw] at x;exact ⟨rfl, x, y⟩
theorem holds_b (s : ByteArray) (w : World) (h : BookAt w F g f n us vs) (hs : s.size <= maxLen) :
  Calls Tryz.prog 43 #[.pointer (some ⟨g, 0, none⟩), .string s] w fun e w' => ∃ v, e = .returned v /\ w'.ownsRow w.heap.size 3 1 v (heldV vs s.data.toList).length ((heldV vs s.data.toList).map (Value.int .i64)) /\ Below w.heap.size w w' := by
 obtain ⟨m, mm, xs, hL, rfl, hF⟩ := h.ex;rw [<- Jee];exact Jn1 s w hL hs
theorem open_b (w : World) (h : BookAt w F g f n us vs) :
  Calls Tryz.prog 144 #[.pointer (some ⟨g, 0, none⟩)] w fun e w' => e = .returned (.int .i64 (n - us.length - Jkf vs)) /\ Below w.heap.size w w' := by
 obtain ⟨m, mm, xs, hL, rfl, hF⟩ := h.ex;have h2 : sumL xs = Jkf (view xs) := sumV xs;rw [<- h2];exact Jmc w hL
end
theorem insAll_self : ∀ {l : List Int}, Rising l -> insAll [] l = l := fun {l} h =>
 Jc4 (Jcz List.Pairwise.nil) h fun z => by rw [mem_insAll]; simp
theorem Jn8 : ∀ (zs hs acc : List Int), zs.Nodup -> (∀ z ∈ zs, z ∈ hs) -> (zs.foldl Jec (hs, acc)).2 = acc ++ zs
 | [], hs, acc, _, _ => by simp
 | z :: r, hs, acc, hn, hs' => by
   rw [List.nodup_cons] at hn;have X := Jn8 r (hs.filter (fun x => decide (x ≠ z))) (acc ++ [z]) hn.2 (fun y hy => List.mem_filter.2 ⟨hs' y (by simp [hy]), decide_eq_true (fun e => hn.1 (by rw [<- e]; exact hy))⟩);rw [List.foldl_cons, show Jec (hs, acc) z = (hs.filter (fun x => decide (x ≠ z)), acc ++ [z]) from if_pos (hs' z (by simp)), X]
   simp
theorem outAll_all {zs hs : List Int} (hn : zs.Nodup) (hs' : ∀ z ∈ zs, z ∈ hs) : (outAll hs zs).2 = zs := by
 have := Jn8 zs hs [] hn hs'
 simpa [outAll] using this
theorem nodup_le {a b : List Int} (h : a.Nodup) (hs : ∀ z ∈ a, z ∈ b) : a.length <= b.length := h.length_le_of_subset hs
def nF : List UInt8 := [102, 114, 101, 115, 104]
def nL : List UInt8 := [108, 105, 118, 101]
def nM : List UInt8 := [109, 111, 118, 101]
def w3 (a b c : Option (List Int)) : List AV := (a.map fun l => ((nF, 0, l) : AV)).toList ++ (b.map fun l => ((nL, 0, l) : AV)).toList ++ (c.map fun l => ((nM, 0, l) : AV)).toList
theorem w3_sum (a b c : Option (List Int)) : Jkf (w3 a b c) = 0 := by cases a <;> cases b <;> cases c <;> simp [w3, Jkf]
theorem w3_len (a b c : Option (List Int)) : (w3 a b c).length <= 3 := by cases a <;> cases b <;> cases c <;> simp [w3]
theorem bF : bytesBefore nF nL = true /\ bytesBefore nF nM = true /\ bytesBefore nL nM = true /\ bytesBefore nL nF = false /\ bytesBefore nM nF = false /\ bytesBefore nM nL = false := by decide
theorem ne3 : nF ≠ nL /\ nF ≠ nM /\ nL ≠ nM /\ nL ≠ nF /\ nM ≠ nF /\ nM ≠ nL := by decide
theorem hF3 (a b c : Option (List Int)) : heldV (w3 a b c) nF = a.getD [] := by
 obtain ⟨h1, h2, h3, h4, h5, h6⟩ := ne3;cases a <;> cases b <;> cases c <;> simp [w3, heldV, Jme, *]
theorem hL3 (a b c : Option (List Int)) : heldV (w3 a b c) nL = b.getD [] := by
 obtain ⟨h1, h2, h3, h4, h5, h6⟩ := ne3;cases a <;> cases b <;> cases c <;> simp [w3, heldV, Jme, *]
theorem hM3 (a b c : Option (List Int)) : heldV (w3 a b c) nM = c.getD [] := by
 obtain ⟨h1, h2, h3, h4, h5, h6⟩ := ne3;cases a <;> cases b <;> cases c <;> simp [w3, heldV, Jme, *]
def w4 (k : Int) (a b c : Option (List Int)) : List AV := (nF, k, a.getD []) :: (b.map fun l => ((nL, 0, l) : AV)).toList ++ (c.map fun l => ((nM, 0, l) : AV)).toList
theorem res4 (k : Int) (a b c : Option (List Int)) : Jgt (w3 a b c) nF k = w4 k a b c := by
 obtain ⟨h1, h2, h3, h4, h5, h6⟩ := ne3;obtain ⟨b1, b2, b3, b4, b5, b6⟩ := bF;cases a <;> cases b <;> cases c <;> simp [w3, w4, Jgt, Jmd, setV, insV, addV, *]
theorem find4 (k : Int) (a b c : Option (List Int)) : Jme (w4 k a b c) nF = some (nF, k, a.getD []) := by simp [w4, Jme]
theorem held4 (k : Int) (a b c : Option (List Int)) : heldV (w4 k a b c) nF = a.getD [] := by unfold heldV; rw [find4]
theorem draw4 (k : Int) (O : List Int) (a b c : Option (List Int)) : setV (w4 k a b c) nF (Jzy k O) = w3 (some (insAll (a.getD []) O)) b c := by
 obtain ⟨h1, h2, h3, h4, h5, h6⟩ := ne3;cases a <;> cases b <;> cases c <;> simp [w3, w4, setV, Jzy, *]
theorem move_L (O : List Int) (a : List Int) (b c : Option (List Int)) (hO : O ≠ []) : Jvm (w3 (some a) b c) nF nL O = w3 (some (lessU a O)) (some (insAll (b.getD []) O)) c := by
 obtain ⟨h1, h2, h3, h4, h5, h6⟩ := ne3;obtain ⟨b1, b2, b3, b4, b5, b6⟩ := bF;cases b <;> cases c <;> simp [w3, Jvm, Jmd, setV, insV, Jz0, J4y, *]
theorem ret3 (O : List Int) (a : List Int) (b c : Option (List Int)) : setV (w3 (some a) b c) nF (retV O) = w4 O.length (some (lessU a O)) b c := by
 obtain ⟨h1, h2, h3, h4, h5, h6⟩ := ne3;cases b <;> cases c <;> simp [w3, w4, setV, retV, lessU, *]
theorem close4 (k : Int) (a b c : Option (List Int)) : Jkt (w4 k a b c) nF = w3 none b c := by
 obtain ⟨h1, h2, h3, h4, h5, h6⟩ := ne3;cases a <;> cases b <;> cases c <;> simp [w3, w4, Jkt, *]
theorem take_used {f n : Int} {us O O2 out : List Int} (hn : 0 <= n) (hr : Rising us) (hi : ∀ z ∈ us, f <= z /\ z < f + n) (ho : out = (freeIn f us n.toNat).take (n - us.length).toNat) (hO : ∀ z ∈ O, z ∈ out) (h2 : O2 = (outAll (lessU out O) out).2) :
  lessU (lessU (insAll us out) O2) (lessU (lessU out O) O2) = insAll us O /\ out = freeIn f us n.toNat := by
 have hl := freeIn_len (f := f) (us := us) (n := n.toNat) hr (fun z hz => by have := hi z hz; omega);have e : out = freeIn f us n.toNat := by rw [ho]; exact List.take_of_length_le (by omega)
 refine ⟨?_, e⟩;have L := Jn0 (lessU out O) out;subst h2
 have hin : ∀ z, z ∈ (outAll (lessU out O) out).2 ↔ z ∈ out /\ z ∉ O := fun z => by
  constructor
  · intro hz
    have h := L.sub z hz;have h3 := (List.mem_filter.1 h.1).2;exact ⟨h.2, by simpa using h3⟩
  · rintro ⟨h3, h4⟩
    exact L.all z h3 (List.mem_filter.2 ⟨h3, by simpa using h4⟩)
 generalize (outAll (lessU out O) out).2 = O2 at hin ⊢;clear L;have hnu : ∀ z ∈ out, z ∉ us := fun z hz => by rw [e] at hz; exact (mem_freeIn.1 hz).2.2
 refine Jc4 (((Jcz hr).filter _).filter _) (Jcz hr) fun z => ?_;unfold lessU;simp only [List.mem_filter, mem_insAll, decide_eq_true_eq, hin];constructor
 · rintro ⟨⟨h3 | h3, h4⟩, h5⟩
   · exact .inl h3
   · exact .inr (Classical.byContradiction fun h6 => h4 ⟨h3, h6⟩)
 · rintro (h3 | h3)
   · exact ⟨⟨.inl h3, fun h4 => hnu z h4.1 h3⟩, fun h4 => hnu z h4.1.1 h3⟩
   · exact ⟨⟨.inr (hO z h3), fun h4 => h4.2 h3⟩, fun h4 => h4.1.2 h3⟩
end Go.Proofs.YtalkkhafcfhglaaGreatDoor.Led
namespace Go.Proofs.YtalkkhafcfhglaaGreatDoor
open Go.RowKit
def flr (t e : Int) : Int := t - t % e
theorem Jro {t e : Int} (h : 0 <= t) (he : 1 <= e) : 0 <= flr t e /\ flr t e <= t := by
 have h1 := Int.emod_nonneg t (show e ≠ 0 by omega)
 have h2 : t % e <= t := by
  rcases Int.lt_or_le t e with h3 | h3
  · rw [Int.emod_eq_of_lt h h3]; omega
  · have := Int.emod_lt_of_pos t (show 0 < e by omega); omega
 unfold flr;omega
theorem Jrp {t : Int} (h : 0 <= t) (e : Int) : t.tmod e = t % e := Int.tmod_eq_emod_of_nonneg h
theorem Jn9 (t e : Int) (w : World) (h : 0 <= t /\ t <= 9223372036854775807) (he : 1 <= e /\ e <= 9223372036854775807) : Calls Tryz.prog 98 #[.int .i64 t, .int .i64 e] w fun x w' => x = .returned (.int .i64 (flr t e)) /\ w = w' := by
 obtain ⟨h1, h2⟩ := h;obtain ⟨e1, e2⟩ := he;have hne : e ≠ 0 := by omega
 have g1 := Int.emod_nonneg t hne;have g2 := Jro h1 e1;have HT := zI (Jrp h1 e);have hd : decide (e < 1) = false := decide_eq_false (by omega);have hm : decide (t % e < 0) = false := decide_eq_false (by omega);have hm' : decide (t.tmod e < 0) = false := by rw [HT.out]; exact hm
 unfold flr at g2;obtain ⟨g3, g4⟩ := g2;go_enter Tryz.func98, Tryz.ntmps98;go_wp2;go_ret;exact ⟨Jbl (by unfold flr; first | rfl | (rw [HT.out])), rfl⟩
theorem Jjc (a b : Int) (w : World) (ha : 1 <= a /\ a <= 9223372036854775807) (hb : 0 <= b /\ b <= 9223372036854775807) : Calls Tryz.prog 184 #[.int .i64 a, .int .i64 b] w fun x w' => x = .returned (.bool (decide (b % a = 0))) /\ w = w' := by
 obtain ⟨h1, h2⟩ := ha;obtain ⟨e1, e2⟩ := hb;have hne : a ≠ 0 := by omega
 have HT := zI (Jrp e1 a);go_enter Tryz.func184, Tryz.ntmps184;go_wp2;go_ret;exact ⟨Jag (by first | rfl | (rw [HT.out]; rfl) | (rw [Bool.eq_iff_iff]; simp) | (rw [HT.out, Bool.eq_iff_iff]; simp)), rfl⟩
def flrE (t e : Int) : Int := if e < 1 then t else flr t e
theorem Jtl (t e : Int) (w : World) (h : 0 <= t /\ t <= 9223372036854775807) (he : -9223372036854775808 <= e /\ e <= 9223372036854775807) : Calls Tryz.prog 98 #[.int .i64 t, .int .i64 e] w fun x w' => x = .returned (.int .i64 (flrE t e)) /\ w = w' := by
 by_cases h1 : e < 1
 · have HF := zI (show flrE t e = t from if_pos h1)
   go_enter Tryz.func98, Tryz.ntmps98;go_wp2;go_ret;exact ⟨Jbl HF.out.symm, rfl⟩
 · rw [show flrE t e = flr t e from if_neg h1]
   exact Jn9 t e w h ⟨by omega, he.2⟩
theorem Jp5 {t e : Int} (h : t < 0) (he : 1 <= e) : -e < t.tmod e /\ t.tmod e <= 0 /\ t <= t.tmod e := by
 obtain ⟨u, rfl⟩ : ∃ u : Int, t = -u := ⟨-t, by omega⟩;rw [Int.neg_tmod];have h1 := Int.tmod_lt_of_pos u (show 0 < e by omega);have h2 : 0 <= u.tmod e := Int.tmod_nonneg _ (by omega)
 have h3 : u.tmod e <= u := by
  rw [Int.tmod_eq_emod_of_nonneg (by omega)];rcases Int.lt_or_le u e with h3 | h3
  · rw [Int.emod_eq_of_lt (by omega) h3]; omega
  · have := Int.emod_lt_of_pos u (show 0 < e by omega); omega
 omega
def Jvq (w : World) (x : Ending) (w' : World) : Prop := ∃ z : Int, x = .returned (.int .i64 z) /\ z <= 0 /\ -9223372036854775808 <= z /\ w = w'
theorem Jvr (t e : Int) (w : World) (h : -9223372036854775808 <= t /\ t < 0) (he : 1 <= e /\ e <= 9223372036854775807) : Calls Tryz.prog 98 #[.int .i64 t, .int .i64 e] w (Jvq w) := by
 obtain ⟨h1, h2⟩ := h;obtain ⟨e1, e2⟩ := he;have hne : e ≠ 0 := by omega
 have hd : decide (e < 1) = false := decide_eq_false (by omega);obtain ⟨g1, g2, g3⟩ := Jp5 h2 e1;have hend : ∀ z : Int, z <= 0 -> -9223372036854775808 <= z -> Jvq w (.returned (.int .i64 z)) w := fun z a b => ⟨z, rfl, a, b, rfl⟩;have HE := zI hend;clear hend;go_enter Tryz.func98, Tryz.ntmps98;go_wp2
 all_goals
  go_ret;exact HE.out _ (by omega) (by omega)
def Jgh (now keep ev : Int) : Int := if now < 0 \/ keep < 0 \/ ev < 1 \/ now < keep then 0 else flr (now - keep) ev
theorem Jz3 {now keep ev : Int} (h : now <= 9223372036854775807) : 0 <= Jgh now keep ev /\ Jgh now keep ev <= 9223372036854775807 := by
 unfold Jgh;split
 · omega
 · have := Jro (t := now - keep) (e := ev) (by omega) (by omega)
   omega
theorem Jz4 (now keep ev : Int) (w : World) (hn : -9223372036854775808 <= now /\ now <= 9223372036854775807) (hk : -9223372036854775808 <= keep /\ keep <= 9223372036854775807) (he : -9223372036854775808 <= ev /\ ev <= 9223372036854775807) :
  Calls Tryz.prog 175 #[.int .i64 now, .int .i64 keep, .int .i64 ev] w fun x w' => x = .returned (.int .i64 (Jgh now keep ev)) /\ w = w' := by
 by_cases h1 : now < 0
 · have HF := zI (show Jgh now keep ev = 0 from if_pos (.inl h1))
   go_enter Tryz.func175, Tryz.ntmps175;go_wp2;go_ret;exact ⟨Jbl HF.out.symm, rfl⟩
 · have hd1 : decide (now < 0) = false := decide_eq_false h1
   by_cases h2 : keep < 0
   · have HF := zI (show Jgh now keep ev = 0 from if_pos (.inr (.inl h2)))
     go_enter Tryz.func175, Tryz.ntmps175;go_wp2;go_ret;exact ⟨Jbl HF.out.symm, rfl⟩
   · have hd2 : decide (keep < 0) = false := decide_eq_false h2
     by_cases h3 : ev < 1
     · have HF := zI (show Jgh now keep ev = 0 from if_pos (.inr (.inr (.inl h3))))
       go_enter Tryz.func175, Tryz.ntmps175;go_wp2;go_ret;exact ⟨Jbl HF.out.symm, rfl⟩
     · have hd3 : decide (ev < 1) = false := decide_eq_false h3
       by_cases h4 : now < keep
       · have HF := zI (show Jgh now keep ev = 0 from if_pos (.inr (.inr (.inr h4))))
         go_enter Tryz.func175, Tryz.ntmps175;go_wp2_with fail
         refine (Jvr (now - keep) ev _ ⟨by omega, by omega⟩ ⟨by omega, he.2⟩).mono ?_;rintro e w1 ⟨z, rfl, hz, hz2, rfl⟩;have HM := zI (show max z 0 = 0 from by omega);go_wp2;go_ret;exact ⟨Jbl (by rw [HF.out]; exact HM.out), rfl⟩
       · have HF := zI (show Jgh now keep ev = flr (now - keep) ev from if_neg (by omega))
         have hb := Jro (t := now - keep) (e := ev) (by omega) (by omega);have HM := zI (show max (flr (now - keep) ev) 0 = flr (now - keep) ev from by omega);clear hb;go_enter Tryz.func175, Tryz.ntmps175;go_wp2_with fail
         refine (Jn9 (now - keep) ev _ ⟨by omega, by omega⟩ ⟨by omega, he.2⟩).mono ?_;rintro e w1 ⟨rfl, rfl⟩;go_wp2;go_ret;exact ⟨Jbl (by rw [HF.out]; exact HM.out), rfl⟩
open Go.ChangeAt Go.ChangeShapes Go.Deep Go.WideShapes
theorem Jp6 {z : Int} (h : (Lit.int .i64 z).wf = true) : -9223372036854775808 <= z /\ z <= 9223372036854775807 := by
 have : IntKind.i64.min = -9223372036854775808 /\ IntKind.i64.max = 9223372036854775807 := by decide
 simpa [Lit.wf, this.1, this.2] using h
structure Rch where
 now : Int
 nm : ByteArray
 ts : List Ti
 fs : List Int
abbrev rchV (now : Int) (nm : ByteArray) (A : Option Addr) (n c : Nat) (B : Option Addr) (m d : Nat) : Value := .agg #[.int .i64 now, .string nm, .slice A n c, .slice B m d]
structure Jef (w : World) (A : Option Addr) (n : Nat) (B : Option Addr) (m : Nat) (r : Rch) : Prop where
 ts : Tis w A n r.ts
 fs : Ints w .i64 B m r.fs
 now : -9223372036854775808 <= r.now /\ r.now <= 9223372036854775807
theorem Jef.below {w w' : World} {A : Option Addr} {n : Nat} {B : Option Addr} {m : Nat} {r : Rch} (h : Jef w A n B m r) (hb : Below w.heap.size w w') : Jef w' A n B m r := ⟨h.ts.below hb, h.fs.below hb, h.now⟩
def isB (n : Nat) (i : Int) : Bool := decide (0 <= i /\ i < n)
theorem J21 {n i : Nat} (h : i < n) : isB n i = true := decide_eq_true (by omega)
def Rch.nextEv (r : Rch) (i : Nat) : Int := ((r.ts[min (i + 1) (r.ts.length - 1)]?).map Ti.ev).getD 0
def Rch.from_ (r : Rch) (i : Nat) : Int :=
 match r.ts[i]? with
 | none => 0
 | some t => match r.fs[i]? with
   | none => Jgh r.now t.kp (r.nextEv i)
   | some f => max (Jgh r.now t.kp (r.nextEv i)) f
def Rch.fromI (r : Rch) (i : Int) : Int := if isB r.ts.length i = true then r.from_ i.toNat else 0
def Rch.start (r : Rch) (i t : Int) : Int := if isB r.ts.length i = true /\ 0 <= t then flrE t ((r.ts[i.toNat]?).map Ti.ev |>.getD 0) else 0
def Rch.has (r : Rch) (i t : Int) : Bool := isB r.ts.length i && decide (0 <= t) && decide (r.fromI i <= r.start i t)
theorem Jjd (now : Int) (nm : ByteArray) (A : Option Addr) (n c : Nat) (B : Option Addr) (m d : Nat) (i : Int) (w : World) :
  Calls Tryz.prog 163 #[rchV now nm A n c B m d, .int .i64 i] w fun e w' => e = .returned (.bool (isB n i)) /\ Below w.heap.size w w' := by
 by_cases h0 : 0 <= i
 · have HF := zI (show isB n i = decide (i < n) from by unfold isB; simp [h0])
   go_enter Tryz.func163, Tryz.ntmps163;go_wp2;go_ret;exact ⟨Jag HF.out.symm, (Below.refl _ _).alloc (Nat.le_refl _) _⟩
 · have HF := zI (show isB n i = false from decide_eq_false (by omega))
   have hd : decide (0 <= i) = false := decide_eq_false h0;go_enter Tryz.func163, Tryz.ntmps163;go_wp2;go_ret;exact ⟨Jag HF.out.symm, (Below.refl _ _).alloc (Nat.le_refl _) _⟩
theorem Jmf (A : Option Addr) (n c : Nat) (B : Option Addr) (m d : Nat) (r : Rch) (i : Nat) (w : World) (h : Jef w A n B m r) (hn : n <= 1000000) (hi : i < n) :
  Calls Tryz.prog 100 #[rchV r.now r.nm A n c B m d, .int .i64 i] w fun e w' => e = .returned (.int .i64 (r.from_ i)) /\ Below w.heap.size w w' := by
 have HI := zI (J21 hi);have hln := h.ts.len;have hlm := h.fs.len;have K : i < r.ts.length := by rw [hln]; exact hi
 obtain ⟨j, hj⟩ : ∃ j, j = min (i + 1) (r.ts.length - 1) := ⟨_, rfl⟩;have K2 : j < r.ts.length := by omega
 have HBK := zI (show r.nextEv i = (r.ts[j]'K2).ev from by unfold Rch.nextEv; rw [<- hj, List.getElem?_eq_getElem K2]; rfl)
 have HFM := zI (show ∀ z, r.fs[i]? = none -> r.from_ i = Jgh r.now (r.ts[i]'K).kp (r.ts[j]'K2).ev \/ z = (0 : Int) from fun z hz => .inl (by
  unfold Rch.from_; rw [List.getElem?_eq_getElem K, hz, <- HBK.out]))
 have HFS := zI (show ∀ f, r.fs[i]? = some f -> r.from_ i = max (Jgh r.now (r.ts[i]'K).kp (r.ts[j]'K2).ev) f from fun f hf => by
  unfold Rch.from_; rw [List.getElem?_eq_getElem K, hf, <- HBK.out])
 have e3 : min ((i : Int) + 1) ((n : Int) - 1) = (j : Int) := by omega
 have HE3 := zI e3;have hjn : j < n := by omega
 clear hj e3;have hb0 : Below w.heap.size w (w.alloc (.cells #[.int .i64 r.now, .string r.nm, .slice A n c, .slice B m d] 121)) := (Below.refl _ w).alloc (Nat.le_refl _) _;have b0 := Bx.new w 121 #[.int .i64 r.now, .string r.nm, .slice A n c, .slice B m d];go_enter Tryz.func100, Tryz.ntmps100;go_wp2_with fail
 refine (Jjd _ _ _ _ _ _ _ _ (i : Int) _).mono ?_;rw [HI.out];rintro e w1 ⟨rfl, hb⟩;have hb1 := hb0.trans (hb.mono hb0.size);have p := b0.below hb;have q0 := p.at_ 0 rfl;have q2 := p.at_ 2 rfl;have q3 := p.at_ 3 rfl;obtain ⟨b, off, rfl, hbl, X⟩ := (h.ts.below hb1).get K;obtain ⟨b', off', e', _, Y⟩ := (h.ts.below hb1).get K2;cases e'
 have x2 := X.c2;have y1 := Y.c1;have hok := h.ts.ok _ (List.getElem_mem K);have hok2 := h.ts.ok _ (List.getElem_mem K2);have hbk := Jz3 (now := r.now) (keep := (r.ts[i]'K).kp) (ev := (r.ts[j]'K2).ev) h.now.2;have hB := fun W => Jz4 r.now (r.ts[i]'K).kp (r.ts[j]'K2).ev W h.now hok.kp hok2.ev;have hbw := hb1;have HFF := zI (h.fs.below hb1);have hfw := zI h.fs.wf;clear h b0 p hb hb0 X Y hok hok2;generalize (r.ts[i]'K) = x at *;generalize (r.ts[j]'K2) = y at *;obtain ⟨z, hz⟩ : ∃ z, Jgh r.now x.kp y.ev = z := ⟨_, rfl⟩;rw [hz] at hB hbk HFM HFS;have HZ := zI hz;clear hz;have g0 : (0 : Int) <= (i : Int) := by omega
 have g1 : (i : Int) < (n : Int) := by omega
 have g2 : (0 : Int) <= (j : Int) := by omega
 have g3 : (j : Int) < (n : Int) := by omega
 have e1 : IntKind.i64.wrap ((i : Int) + 1) = (i : Int) + 1 := IntWalk.i64_in _ (by omega);have e2 : IntKind.i64.wrap ((n : Int) - 1) = (n : Int) - 1 := IntWalk.i64_in _ (by omega);have e3 := HE3.out;go_wp2_with fail
 go_quiet ((go_at_call 175; exact Calls.quiet_of_same ((hB _).mono fun _ _ ⟨h1, h2⟩ => ⟨h1, h2.symm⟩)))
 clear e1 e2 e3 HE3 x2 y1 hB;have hdn := below_drewN (Below.refl w1.heap.size w1) nq;have s3 := (hdn.cell (p := ⟨w.heap.size, 3, none⟩) (World.block_lt_of_cell? _ _ q3)).trans q3;have s2 := (hdn.cell (p := ⟨w.heap.size, 2, none⟩) (World.block_lt_of_cell? _ _ q2)).trans q2;have hbd := hbw.trans (hdn.mono hbw.size);have HG := zI (HFF.out.below hdn);clear q0 q2 q3 hdn hbw HFF;generalize w1.drewN nq = wd at *;have hmm := HG.out.n_le;unfold maxLen at hmm;by_cases him : i < m
 · have KF : i < r.fs.length := by rw [hlm]; exact him
   obtain ⟨bf, of, rfl, _, f0⟩ := HG.out.get KF;have hff := Jp6 (hfw.out _ (List.getElem_mem KF));have HR := zI (HFS.out _ (List.getElem?_eq_getElem KF));generalize (r.fs[i]'KF) = f at *;have g4 : (i : Int) < (m : Int) := by omega
   go_wp2;go_ret;exact ⟨Jbl (by rw [HR.out]), hbd⟩
 · have HR := zI (show r.from_ i = z from by
    rcases HFM.out 1 (List.getElem?_eq_none (by rw [hlm]; omega)) with h1 | h1
    · exact h1
    · omega)
   have hd : decide ((i : Int) < (m : Int)) = false := decide_eq_false (by omega);go_wp2;go_ret;exact ⟨Jbl HR.out.symm, hbd⟩
theorem Jvs : (Tryz.prog.info? 3).map (fun i => (i.zero, i.size, i.bytes)) = some (some (.int .i64 0), 1, 8) := by kernel_rfl
theorem Jtm (A : Option Addr) (n c : Nat) (zs : List Int) (w : World) (h : Ints w .i64 A n zs) (hn : n <= 1000000) :
  Calls Tryz.prog 116 #[.slice A n c] w fun e w' => ∃ v, e = .returned v /\ w'.ownsRow w.heap.size 3 1 v n (zs.map (Value.int .i64)) /\ Below w.heap.size w w' := by
 have hq := fun (W : World) (a : Option Addr) (n c n' c' : Nat) => Lib.run_eql_slice_nil (P := Tryz.prog) W _ _ a n c n' c' Tryz.underlying51;obtain ⟨i0, hi, hz0, hz1, hz2⟩ := info_parts Jvs;have hL := zI (show (zs.map (Value.int .i64)).length = n * 1 from by rw [List.length_map, h.len]; omega);have hS := zI (h.sl.alloc (.cells #[] 3));cases A with
 | none =>
   have h0 : n = 0 := by
    rcases Nat.eq_zero_or_pos n with h0 | h0
    · exact h0
    · obtain ⟨b, off, e, _⟩ := h.get (j := 0) (by rw [h.len]; exact h0)
      cases e
   subst h0;have hl : zs = [] := List.eq_nil_of_length_eq_zero h.len;subst hl;go_enter Tryz.func116, Tryz.ntmps116;go_wp2;go_ret;exact ⟨_, rfl, World.ownsRow_nil _ _ _ _, Below.refl _ _⟩
 | some ad =>
   clear h;go_enter Tryz.func116, Tryz.ntmps116;go_wp2_with (at_builtin; refine Jan _ rfl _ _ 51 rfl w.heap.size 3 i0 _ 1 8 Tryz.underlying51 hi hz0 hz1 hz2 rfl (by decide) (.slice (some ⟨w.heap.size, 0, none⟩) 0 0) 0 [] rfl (World.ownsRow_made w #[] 0 (Nat.le_refl _) (Nat.zero_le _) (by simp)) (some ad) n c _ rfl hL.out hS.out (J20 .i64 zs) ?c4 ?c5 ?c6 ?_; (unfold maxLen; omega); (omega); (simp); intro v' w1 hown1 hg1 _)
   go_ret;refine ⟨_, rfl, by simpa using hown1, ((Below.refl _ w).alloc (Nat.le_refl _) _).grown hg1 (by simp) (by intro k hk; simp [Value.ownBlock] at hk; omega)⟩
theorem Jz5 {n : Nat} {i : Int} (h : isB n i = true) : ∃ k : Nat, i = k /\ k < n := by
 unfold isB at h;rw [decide_eq_true_iff] at h;exact ⟨i.toNat, by omega, by omega⟩
theorem Jvt (A : Option Addr) (n c : Nat) (B : Option Addr) (m d : Nat) (r : Rch) (i t : Int) (w : World) (h : Jef w A n B m r) (hn : n <= 1000000) (ht : -9223372036854775808 <= t /\ t <= 9223372036854775807) :
  Calls Tryz.prog 93 #[rchV r.now r.nm A n c B m d, .int .i64 i, .int .i64 t] w fun e w' => e = .returned (.tuple #[.int .i64 (r.start i t), .bool (r.has i t)]) /\ Below w.heap.size w w' := by
 have hb0 : Below w.heap.size w (w.alloc (.cells #[.int .i64 r.now, .string r.nm, .slice A n c, .slice B m d] 121)) := (Below.refl _ w).alloc (Nat.le_refl _) _;have b0 := Bx.new w 121 #[.int .i64 r.now, .string r.nm, .slice A n c, .slice B m d];cases hi : isB n i
 · have HI := zI hi
   have HF := zI (show r.start i t = 0 /\ r.has i t = false from by unfold Rch.start Rch.has; rw [h.ts.len, hi]; simp);clear hi h b0;go_enter Tryz.func93, Tryz.ntmps93;go_wp2_with fail
   refine (Jjd _ _ _ _ _ _ _ _ i _).mono ?_;rw [HI.out];rintro e w1 ⟨rfl, hb⟩;go_wp2;go_ret2;exact ⟨by rw [HF.out.1, HF.out.2]; rfl, hb0.trans (hb.mono hb0.size)⟩
 · obtain ⟨k, rfl, hk⟩ := Jz5 hi
   have HI := zI hi;by_cases h0 : 0 <= t
   · have K : k < r.ts.length := by rw [h.ts.len]; exact hk
     have hlen := h.ts.len
     have HS := zI (show r.start (k : Int) t = flrE t (r.ts[k]'K).ev from by
      unfold Rch.start; rw [hlen, hi, if_pos ⟨rfl, h0⟩, Int.toNat_natCast, List.getElem?_eq_getElem K]; rfl)
     have HH := zI (show r.has (k : Int) t = decide (r.from_ k <= r.start (k : Int) t) from by
      unfold Rch.has Rch.fromI; rw [hlen, hi, if_pos rfl, Int.toNat_natCast]; simp [h0])
     have hd : decide (t < 0) = false := decide_eq_false (by omega);have HFR := zI (fun W (hW : Jef W A n B m r) => Jmf A n c B m d r k W hW hn hk);have HTS := zI h;have hev := (h.ts.ok _ (List.getElem_mem K)).ev;clear hi h;go_enter Tryz.func93, Tryz.ntmps93;go_wp2_with fail
     refine (Jjd _ _ _ _ _ _ _ _ (k : Int) _).mono ?_;rw [HI.out];rintro e w1 ⟨rfl, hb⟩;have p := b0.below hb;have hb1 := hb0.trans (hb.mono hb0.size);have q0 := p.at_ 0 rfl;have q1 := p.at_ 1 rfl;have q2 := p.at_ 2 rfl;have q3 := p.at_ 3 rfl;obtain ⟨b, off, rfl, hbl, X⟩ := (HTS.out.ts.below hb1).get K;have x1 := X.c1;have HT1 := zI (HTS.out.below hb1);clear hb hb0 b0 X p;generalize (r.ts[k]'K) = x at *;have g0 : (0 : Int) <= (k : Int) := (by omega);have g1 : (k : Int) < (n : Int) := (by omega);obtain ⟨z, hz⟩ : ∃ z, flrE t x.ev = z := ⟨_, rfl⟩;have HF := fun W => Jtl t x.ev W ⟨h0, ht.2⟩ hev;rw [hz] at HF HS;have HZ := zI hz;clear hz;go_wp2_with fail
     refine (HF _).mono ?_;rintro e w2 ⟨rfl, rfl⟩;go_wp2_with fail
     refine (HFR.out _ HT1.out).mono ?_;rintro e w3 ⟨rfl, hb3⟩;go_wp2;go_ret2;exact ⟨by rw [HH.out, HS.out]; rfl, hb1.trans (hb3.mono hb1.size)⟩
   · have HF := zI (show r.start (k : Int) t = 0 /\ r.has (k : Int) t = false from by unfold Rch.start Rch.has; rw [if_neg (fun e => h0 e.2), decide_eq_false h0]; simp)
     have hneg : t < 0 := (by omega);clear hi h b0;go_enter Tryz.func93, Tryz.ntmps93;go_wp2_with fail
     refine (Jjd _ _ _ _ _ _ _ _ (k : Int) _).mono ?_;rw [HI.out];rintro e w1 ⟨rfl, hb⟩;go_wp2;go_ret2;exact ⟨by rw [HF.out.1, HF.out.2]; rfl, hb0.trans (hb.mono hb0.size)⟩
theorem Jje (now : Int) (nm : ByteArray) (A : Option Addr) (n c : Nat) (ts : List Ti) (B : Option Addr) (m d : Nat) (fs : List Int) (w : World) (hA : Tis w A n ts) (hB : Ints w .i64 B m fs) (hn : n <= 1000000) (hm : m <= 1000000) (hnow : -9223372036854775808 <= now /\ now <= 9223372036854775807) :
  Calls Tryz.prog 57 #[polV nm A n c, .int .i64 now, .slice B m d] w fun e w' => ∃ A' c' B' d', e = .returned (rchV now nm A' n c' B' m d') /\ Jef w' A' n B' m ⟨now, nm, ts, fs⟩ /\ w'.ownsRow w.heap.size 119 4 (.slice A' n c') n (ts.flatMap Ti.cells) /\ w'.ownsRow w.heap.size 3 1 (.slice B' m d') m (fs.map (Value.int .i64)) /\ Below w.heap.size w w' := by
 have b1 := Bx.new (w.alloc (.cells #[.string nm, .slice A n c] 63)) 121 #[.int .i64 0, .string ByteArray.empty, .slice none 0 0, .slice none 0 0];rw [show (w.alloc (.cells #[.string nm, .slice A n c] 63)).heap.size = w.heap.size + 1 from by simp] at b1;have hb : Below w.heap.size w ((w.alloc (.cells #[.string nm, .slice A n c] 63)).alloc (.cells #[.int .i64 0, .string ByteArray.empty, .slice none 0 0, .slice none 0 0] 121)) := ((Below.refl _ _).alloc (Nat.le_refl _) _).alloc (by simp) _;have hsz : ((w.alloc (.cells #[.string nm, .slice A n c] 63)).alloc (.cells #[.int .i64 0, .string ByteArray.empty, .slice none 0 0, .slice none 0 0] 121)).heap.size = w.heap.size + 2 := by simp
 have HSZ := zI hsz;have HC := zI (Jn4 nm A n c ts _ (hA.below hb) hn);have HOT := zI hA;have HOB := zI hB;clear hsz hA hB;go_enter Tryz.func57, Tryz.ntmps57;go_wp2_with fail
 refine HC.out.mono ?_;rintro e w2 ⟨A', c', rfl, hrow, hb2⟩;rw [HSZ.out] at hrow;have p1 := b1.below hb2;have hbw := hb.trans (hb2.mono hb.size);have HCI := zI (Jtm B m d fs w2 (HOB.out.below hbw) hm);have hs2 := hb2.size;rw [HSZ.out] at hs2;have HR := zI hrow;clear HC b1 hb hb2 hrow;go_wp2_with fail
 refine HCI.out.mono ?_;rintro e w3 ⟨v, rfl, hrow3, hb3⟩;have p := p1.below hb3;have HR2 := zI (HR.out.kept (row := none) ⟨hb3.os, hb3.tape, hb3.output, hb3.size, fun i hi _ => hb3.block i hi⟩ (by cases (Value.slice A' n c').ownBlock <;> simp))
 have hbw3 := hbw.trans (hb3.mono hbw.size);obtain ⟨B', d', rfl, HI⟩ := own_ints hrow3 HOB.out.len HOB.out.wf (by unfold maxLen; omega);have HR3 := zI hrow3;have HII := zI HI;have f0 := p.free 0;have f1 := p.free 1;have f2 := p.free 2;have f3 := p.free 3;have r0 := p.at_ 0 rfl;have r1 := p.at_ 1 rfl;have r2 := p.at_ 2 rfl;have r3 := p.at_ 3 rfl;clear p1 hb3 hrow3 HI HCI HR hbw;go_wp2;have X := (((p.set 0 (.int .i64 now)).set 1 (.string nm)).set 2 (.slice A' n c')).set 3 (.slice B' m d');have x0 := X.at_ 0 rfl;have x1 := X.at_ 1 rfl;have x2 := X.at_ 2 rfl;have x3 := X.at_ 3 rfl;have hfin : Below w.heap.size w ((((w3.setCell ⟨w.heap.size + 1, 0, none⟩ (.int .i64 now)).setCell ⟨w.heap.size + 1, 1, none⟩ (.string nm)).setCell ⟨w.heap.size + 1, 2, none⟩ (.slice A' n c')).setCell ⟨w.heap.size + 1, 3, none⟩ (.slice B' m d')) := (((hbw3.setCell (by simp) _).setCell (by simp) _).setCell (by simp) _).setCell (by simp) _
 have ra : ((((w3.setCell ⟨w.heap.size + 1, 0, none⟩ (.int .i64 now)).setCell ⟨w.heap.size + 1, 1, none⟩ (.string nm)).setCell ⟨w.heap.size + 1, 2, none⟩ (.slice A' n c')).setCell ⟨w.heap.size + 1, 3, none⟩ (.slice B' m d')).ownsRow w.heap.size 119 4 (.slice A' n c') n (ts.flatMap Ti.cells) := by
  have hne : ∀ g, (Value.slice A' n c').ownBlock = some g -> g ≠ w.heap.size + 1 := fun g hg e => by have := (HR2.out.lt g hg).1; omega
  exact Ji9 (Jbp (Jbp (Jbp (Jbp HR2.out (fun g hg => hne g hg) _) (fun g hg => hne g hg) _) (fun g hg => hne g hg) _) (fun g hg => hne g hg) _) (by omega)
 have rb : ((((w3.setCell ⟨w.heap.size + 1, 0, none⟩ (.int .i64 now)).setCell ⟨w.heap.size + 1, 1, none⟩ (.string nm)).setCell ⟨w.heap.size + 1, 2, none⟩ (.slice A' n c')).setCell ⟨w.heap.size + 1, 3, none⟩ (.slice B' m d')).ownsRow w.heap.size 3 1 (.slice B' m d') m (fs.map (Value.int .i64)) := by
  have hne : ∀ g, (Value.slice B' m d').ownBlock = some g -> g ≠ w.heap.size + 1 := fun g hg e => by have := (HR3.out.lt g hg).1; omega
  exact Ji9 (Jbp (Jbp (Jbp (Jbp HR3.out (fun g hg => hne g hg) _) (fun g hg => hne g hg) _) (fun g hg => hne g hg) _) (fun g hg => hne g hg) _) (by omega)
 generalize ((((w3.setCell ⟨w.heap.size + 1, 0, none⟩ (.int .i64 now)).setCell ⟨w.heap.size + 1, 1, none⟩ (.string nm)).setCell ⟨w.heap.size + 1, 2, none⟩ (.slice A' n c')).setCell ⟨w.heap.size + 1, 3, none⟩ (.slice B' m d')) = W at x0 x1 x2 x3 hfin ra rb ⊢;refine bodyPost_ret (v := rchV now nm A' n c' B' m d') (by simp [results, Tryz.results57, go_sem, x0, x1, x2, x3]) rfl ⟨A', c', B', d', rfl, ⟨?_, ?_, hnow⟩, ra, rb, hfin⟩
 · obtain ⟨A2, c2, e, h2⟩ := Jhw ra HOT.out.len HOT.out.ok (by unfold maxLen; omega)
   cases e
   exact h2
 · obtain ⟨A2, c2, e, h2⟩ := own_ints rb HOB.out.len HOB.out.wf (by unfold maxLen; omega)
   cases e
   exact h2
end Go.Proofs.YtalkkhafcfhglaaGreatDoor
