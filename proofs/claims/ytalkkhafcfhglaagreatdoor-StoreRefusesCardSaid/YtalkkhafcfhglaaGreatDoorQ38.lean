/-
  cat.Get: what was laid is read.
-/
import Derived.Test.YtalkkhafcfhglaaGreatDoorQ37
set_option maxRecDepth 100000
set_option maxHeartbeats 4000000
namespace Go.Proofs.YtalkkhafcfhglaaGreatDoor
open Go.RowKit
abbrev catG (g i : Nat) (now : Int) (nm : ByteArray) (A : Option Addr) (n c : Nat) (B : Option Addr) (q c2 : Nat) (E : Option Addr) (en ec : Nat) : Array Value :=
 #[.int .u64 (g : Int), .int .u64 (i : Int), .int .i64 now, .string nm, .slice A n c, .slice B q c2, .string ⟨#[]⟩, .slice none 0 0, .slice none 0 0, .int .i64 0, .int .i64 0, .slice E en ec]
abbrev zCat : Array Value := #[.int .u64 0, .int .u64 0, .int .i64 0, .string ⟨#[]⟩, .slice none 0 0, .slice none 0 0, .string ⟨#[]⟩, .slice none 0 0, .slice none 0 0, .int .i64 0, .int .i64 0, .slice none 0 0]
structure CgS (w7 wr : World) (gu gc gr : Nat) (l : List UInt8) (cs : Array Value) : Prop where
 un : UnAt wr gu l
 box : Bx wr gc 88 cs
 res : Bx wr gr 88 zCat
 chg : Chg (fun b => b = gu \/ b = gc) w7 wr
 ne : gr ≠ gu /\ gr ≠ gc /\ gu ≠ gc
section
variable {w7 wr w' : World} {gu gc gr : Nat} {l r : List UInt8} {cs : Array Value}
theorem CgS.read (h : CgS w7 wr gu gc gr l cs) (hu : UnAt w' gu r) (hg : wr.grownBy w' (some gu)) : CgS w7 w' gu gc gr r cs :=
 ⟨hu, h.box.grown hg (by have := h.ne; simp; omega), h.res.grown hg (by have := h.ne; simp; omega), h.chg.trans (Chg.of_grown (F := fun b => b = gu) hg (fun b e => by cases e; rfl)) (fun b e => .inl (.inl e)), h.ne⟩
theorem CgS.readC (h : CgS w7 wr gu gc gr l cs) (hu : UnAt w' gu r) (hg : Chg (fun b => b = gu) wr w') : CgS w7 w' gu gc gr r cs :=
 ⟨hu, h.box.chg hg (by have := h.ne; omega), h.res.chg hg (by have := h.ne; omega), h.chg.trans hg (fun b e => .inl (.inl e)), h.ne⟩
theorem CgS.below (h : CgS w7 wr gu gc gr l cs) (hb : Below wr.heap.size wr w') : CgS w7 w' gu gc gr l cs := ⟨h.un.below hb, h.box.below hb, h.res.below hb, h.chg.then_below hb, h.ne⟩
theorem CgS.row (h : CgS w7 wr gu gc gr l cs) {B : Nat} {e : TypeId} {k n : Nat} {v : Value} {xs : List Value} (ho : wr.ownsRow B e k v n xs) (hg : wr.grownBy w' v.ownBlock) (hB : w7.heap.size <= B) (h3 : 304 ≠ e) (h4 : 88 ≠ e) : CgS w7 w' gu gc gr l cs :=
 ⟨⟨h.un.bx.grown hg (h.un.bx.not_row ho h3)⟩, h.box.grown hg (h.box.not_row ho h4), h.res.grown hg (h.res.not_row ho h4), h.chg.trans (Chg.of_grown (F := fun b => v.ownBlock = some b) hg (fun _ e => e)) (fun b e => .inr (Nat.le_trans hB (ho.lt b e).1)), h.ne⟩
theorem CgS.re (h : CgS w7 wr gu gc gr l cs) : CgS wr wr gu gc gr l cs := ⟨h.un, h.box, h.res, Chg.refl _ _, h.ne⟩
theorem CgS.set (h : CgS w7 wr gu gc gr l cs) (k : Nat) (v : Value) : CgS w7 (wr.setCell ⟨gc, k, none⟩ v) gu gc gr l (cs.setIfInBounds k v) :=
 ⟨⟨h.un.bx.other (p := ⟨gc, k, none⟩) (by have := h.ne; show gu ≠ gc; omega) v⟩, h.box.set k v, h.res.other (p := ⟨gc, k, none⟩) (by have := h.ne; show gr ≠ gc; omega) v, h.chg.trans (Chg.set (F := fun b => b = gc) wr ⟨gc, k, none⟩ v rfl) (fun b e => .inl (.inr e)), h.ne⟩
end
structure Jhk (g i : Nat) (now : Int) (nm : ByteArray) (ts : List Ti) (fl : List Int) (es : List En) : Prop where
 hg : 1 <= g /\ g < 18446744073709551616
 hi : i < 18446744073709551616
 hnow : 0 <= now /\ now <= 1099511627776
 hnm : nm.size <= maxLen
 hck : Py.checkR nm.toList ts = (0, 0)
 hfn : fl.length = ts.length
 hflo : ∀ f ∈ fl, 0 <= f /\ f <= 4611686018427387904
 hen : es.length <= 90
 hok : ∀ e ∈ es, e.Ok i
 hsh : (es.map fun e => plit (e.tier : Int) (e.shard : Int)).Nodup
 hbl : (es.flatMap En.bl).Nodup
 hlen : (catB g i now (Py.printL nm.toList ts) fl es).length <= 40000
theorem En.Ok.fit {x : En} {i : Nat} (h : x.Ok i) (hi : i < 18446744073709551616) : x.Fit := ⟨by have := h.id; omega, h.tier, h.shard, h.len.2, h.bl⟩
theorem Jqv (ms : List Em) : shK ms = (ms.map Em.e).map fun e => plit (e.tier : Int) (e.shard : Int) := by unfold shK; rw [List.map_map]; rfl
theorem Jj8 (ms : List Em) : Jdv ms = (ms.map Em.e).flatMap En.bl := by unfold Jdv; rw [List.flatMap_map]
theorem EnRd.ems {w wr : World} {g : Nat} {ms : List Em} {v : Value} (h : EnRd w wr g ms v) (hok : ∀ m ∈ ms, (∀ b ∈ m.e.bl, 0 <= b /\ b <= 4095) /\ m.e.bl.length <= 4096) : ∃ E ec, v = .slice E ms.length ec /\ Jg9 wr (made w wr) E ms.length ms := by
 obtain ⟨E, ec, rfl, hs⟩ := Jaq h.own;refine ⟨E, ec, rfl, hs, rfl, fun m hm => ⟨?_, Jcl (h.row m hm)⟩, Jcl h.own⟩;obtain ⟨_, _, e, hs2⟩ := Jaq (h.row m hm);cases e
 exact ⟨hs2, rfl, by have := (hok m hm).2; unfold maxLen; omega, fun z hz => Jbz (by have := (hok m hm).1 z hz; omega)⟩
theorem Jyj (nm : ByteArray) (ts : List Ti) (n : Nat) (S : ByteArray) (w : World) (hS : S = strOf (Py.printL nm.toList ts)) (hn : n = ts.length) (hck : Py.checkR nm.toList ts = (0, 0)) (hm : ∃ m : Int, w.cell? ⟨0, 0, none⟩ = some (.int .i64 m)) :
  Calls Tryz.prog 25 #[.string S] w fun e w' => (∃ A c, e = .returned (.tuple #[polV nm A n c, .int .i64 0, .int .i64 0]) /\ Tis w' A n ts /\ n <= c /\ AIn (made w w') A) /\ Below w.heap.size w w' := by
 subst hS hn;obtain ⟨hv, h1, h5, hf, _⟩ := Py.check_fine hck;have X := Py.read_any (strOf (Py.printL nm.toList ts)) w (by rw [Jac]; have := Py.print_len hv hf h5; unfold maxLen; omega) hm;rw [show strOf (Py.printL nm.toList ts) = ⟨(Py.printL nm.toList ts).toArray⟩ from rfl, Py.readT_print hck] at X;refine X.mono fun e w' ⟨⟨A, c, he, ho, hok, _, _⟩, hb⟩ => ⟨⟨A, c, ?_, ?_, ?_, Jcl ho⟩, hb⟩
 · rw [he, Py.mk_toList]
 · obtain ⟨A', c', e, hh⟩ := Jhw ho rfl hok (by unfold maxLen; omega); cases e; exact hh
 · obtain ⟨_, _, e, h, _⟩ := Py.own_slice ho; cases e; exact h
theorem J4g (g i : Nat) (now : Int) (nm : ByteArray) (ts : List Ti) (fl : List Int) (es : List En) (w : World) (hf : Jhk g i now nm ts fl es) (hG : Glo w) :
  Calls Tryz.prog 66 #[.string (strOf (catB g i now (Py.printL nm.toList ts) fl es))] w fun e w' => ∃ A c B c2 E ec ms, e = .returned (.tuple #[.agg (Jax g i now nm A ts.length c B c2 E es.length ec), .int .i64 0]) /\ ms.map Em.e = es /\
   Jf4 w' (made w w') g i now nm A ts.length c B c2 E es.length ec ts fl ms /\ AIn (made w w') A /\ AIn (made w w') B /\ Below w.heap.size w w' := by
 have HF := zI hf;obtain ⟨P, hP⟩ : ∃ P, P = Py.printL nm.toList ts := ⟨_, rfl⟩;have hPl : P.length <= 400 := by rw [hP]; have := Py.check_fine hf.hck; exact Py.print_len this.1 this.2.2.2.1 this.2.2.1
 obtain ⟨n, hn⟩ : ∃ n, n = ts.length := ⟨_, rfl⟩;obtain ⟨en, hen⟩ : ∃ en, en = es.length := ⟨_, rfl⟩;have hn5 : 1 <= n /\ n <= 5 := by rw [hn]; have := Py.check_fine hf.hck; exact ⟨this.2.1, this.2.2.1⟩
 have hen9 : en <= 90 := by rw [hen]; exact hf.hen
 have hfn : fl.length = n := by rw [hn]; exact hf.hfn
 obtain ⟨L8, h8⟩ : ∃ L8, L8 = le 2 es.length ++ (es.flatMap enB ++ []) := ⟨_, rfl⟩;obtain ⟨L7, h7⟩ : ∃ L7, L7 = le 8 (u64 0) ++ L8 := ⟨_, rfl⟩;obtain ⟨L6, h6⟩ : ∃ L6, L6 = le 8 (u64 0) ++ L7 := ⟨_, rfl⟩;obtain ⟨L5, h5⟩ : ∃ L5, L5 = txB [] ++ L6 := ⟨_, rfl⟩;obtain ⟨L4, h4⟩ : ∃ L4, L4 = (fl.flatMap fun v => le 8 (u64 v)) ++ L5 := ⟨_, rfl⟩;obtain ⟨L3, h3⟩ : ∃ L3, L3 = txB P ++ L4 := ⟨_, rfl⟩;obtain ⟨L2, h2⟩ : ∃ L2, L2 = le 8 (u64 now) ++ L3 := ⟨_, rfl⟩;obtain ⟨L1, h1⟩ : ∃ L1, L1 = le 8 i ++ L2 := ⟨_, rfl⟩
 have hL : catB g i now (Py.printL nm.toList ts) fl es = le 8 g ++ L1 := by
  rw [h1, h2, h3, h4, h5, h6, h7, h8, <- hP];unfold catB catH;simp only [List.append_assoc, List.append_nil]
 have hlen := hf.hlen;rw [hL] at hlen;have k1 : L1.length <= 40000 := by rw [List.length_append] at hlen; omega
 have k2 : L2.length <= 40000 := by rw [h1, List.length_append] at k1; omega
 have k3 : L3.length <= 40000 := by rw [h2, List.length_append] at k2; omega
 have k4 : L4.length <= 40000 := by rw [h3, List.length_append] at k3; omega
 have k5 : L5.length <= 40000 := by rw [h4, List.length_append] at k4; omega
 have k6 : L6.length <= 40000 := by rw [h5, List.length_append] at k5; omega
 have k7 : L7.length <= 40000 := by rw [h6, List.length_append] at k6; omega
 have k8 : L8.length <= 40000 := by rw [h7, List.length_append] at k7; omega
 have HK1 := zI k1;have HK2 := zI k2;have HK3 := zI k3;have HK4 := zI k4;have HK5 := zI k5;have HK6 := zI k6;have HK7 := zI k7;have HK8 := zI k8;have H1 := zI h1;have H2 := zI h2;have H3 := zI h3;have H4 := zI h4;have H5 := zI h5;have H6 := zI h6;have H7 := zI h7;have H8 := zI h8;have HP := zI hP;have HN := zI hn;have HEN := zI hen;have HFN := zI hfn;have HLL := zI hL;have HPL := zI hPl;obtain ⟨gr, hgr⟩ : ∃ gr, gr = w.heap.size := ⟨_, rfl⟩;obtain ⟨w0, hw0⟩ : ∃ w0, w0 = w.alloc (.cells zCat 88) := ⟨_, rfl⟩;have hb0 : Below w.heap.size w w0 := by rw [hw0]; exact (Below.refl _ w).alloc (Nat.le_refl _) _
 have hx0 : Bx w0 gr 88 zCat := by rw [hw0, hgr]; exact Bx.new w _ _
 have HGR := zI hgr;have HW0 := zI hw0;have HB0 := zI hb0;have HX0 := zI hx0;have HGL := zI hG;have HFR := zI (Jo4 (le 8 g ++ L1) w0 (by omega));rw [<- hn, <- hen, hL];obtain ⟨SS, hSS⟩ : ∃ SS, SS = strOf (le 8 g ++ L1) := ⟨_, rfl⟩;rw [<- hSS] at HFR ⊢;have HSS := zI hSS;clear hf hP hPl hn hen hfn h1 h2 h3 h4 h5 h6 h7 h8 hL hlen k1 k2 k3 k4 k5 k6 k7 k8 hw0 hb0 hx0 hgr hG hSS;go_enter Tryz.func66, Tryz.ntmps66;go_upto_region 1 with fail
 rw [<- HW0.out, <- HGR.out];go_wp2_with fail
 refine HFR.out.mono ?_;rintro e w1 ⟨gu, rfl, hlow, hu1, hb1⟩;have HX1 := zI (HX0.out.below hb1);have HB1 := zI (HB0.out.trans (hb1.mono HB0.out.size));have HLO := zI (show gr < gu from Nat.lt_of_lt_of_le HX0.out.lt hlow);have HW := zI (Jhd gu g L1 w1 hu1 HF.out.hg.2 (by have := HK1.out; omega));clear hlow hu1 hb1;go_wp2_with fail
 refine HW.out.mono ?_;rintro e w2 ⟨rfl, hu2, hg2⟩;rw [H1.out] at hu2;have HW2 := zI (Jhd gu i L2 w2 hu2 HF.out.hi (by have := HK2.out; omega));have HC2 := zI (Chg.of_grown (F := fun b => b = gu) hg2 (fun b e => by cases e; rfl));clear hu2 hg2;go_wp2_with fail
 refine HW2.out.mono ?_;rintro e w3 ⟨rfl, hu3, hg3⟩;rw [H2.out] at hu3;have HW3 := zI (Jjz gu now L3 w3 hu3 (by have := HF.out.hnow; omega) (by have := HK3.out; omega));have HC3 := zI (HC2.out.trans (Chg.of_grown (F := fun b => b = gu) hg3 (fun b e => by cases e; rfl)) (fun _ x => .inl x));clear hu3 hg3;go_wp2_with fail
 refine HW3.out.mono ?_;rintro e w4 ⟨rfl, hu4, hg4⟩;have HC4 := zI (HC3.out.trans (Chg.of_grown (F := fun b => b = gu) hg4 (fun b e => by cases e; rfl)) (fun _ x => .inl x));have hgul : gu < w4.heap.size := hu4.bx.lt;have hba := (Below.refl w4.heap.size w4).alloc (Nat.le_refl _) (.cells (catG g i now ⟨#[]⟩ none 0 0 none 0 0 none 0 0) 88);obtain ⟨gc, hgc⟩ : ∃ gc, gc = w4.heap.size := ⟨_, rfl⟩;obtain ⟨w5, hw5⟩ : ∃ w5, w5 = w4.alloc (.cells (catG g i now ⟨#[]⟩ none 0 0 none 0 0 none 0 0) 88) := ⟨_, rfl⟩;have hlo := HLO.out
 have hS5 : CgS w5 w5 gu gc gr L3 (catG g i now ⟨#[]⟩ none 0 0 none 0 0 none 0 0) := by
  have hr4 := HX1.out.chg HC4.out (by omega);refine ⟨?_, ?_, ?_, Chg.refl _ _, by omega, by omega, by omega⟩
  · rw [hw5]; exact hu4.below hba
  · rw [hw5, hgc]; exact Bx.new w4 _ _
  · rw [hw5]; exact hr4.below hba
 have HB5 := zI (show Below w.heap.size w w5 from by
  rw [hw5];exact (Chg.after_below (F := fun _ => False) HB1.out (HC4.out.then_below hba) (fun b e => .inr (by rw [e]; have := HLO.out; have := HGR.out; omega))).none)
 have HG5 := zI (HGL.out.below HB5.out);have HGC := zI hgc;have HW5 := zI hw5;have HS5 := zI hS5;clear hu4 hg4 hba hw5 hgc hS5;go_upto_region 3 with fail
 rw [<- HW5.out, <- HGC.out];have HGE := zI (show ∀ b, (b = gu \/ b = gc) -> w.heap.size <= b from fun b hb => by have h1 := HLO.out; have h2 := HGR.out; have h3 := HGC.out; rcases hb with e | e <;> omega)
 have HTX := zI (Jo3 gu P L4 w5 (by rw [<- H3.out]; exact HS5.out.un) (by have := HPL.out; omega) (by have := HK4.out; omega));go_wp2_with fail
 refine HTX.out.mono ?_;rintro e w6 ⟨rfl, hu6, hg6⟩;have HS6 := zI (HS5.out.read hu6 hg6);have HRQ := zI (Jyj nm ts n (strOf P) w6 (by rw [HP.out]) HN.out HF.out.hck (HGL.out.below (Chg.madeF HB5.out HS6.out.chg HGE.out)).m);clear hu6 hg6;go_wp2_with fail
 refine HRQ.out.mono ?_;rintro e w7 ⟨⟨A, c, rfl, hT7, hc7, hA7⟩, hb7⟩;have hba := (Below.refl w7.heap.size w7).alloc (Nat.le_refl _) (.cells #[.string nm, .slice A n c] 63);obtain ⟨gp, hgp⟩ : ∃ gp, gp = w7.heap.size := ⟨_, rfl⟩;obtain ⟨w8, hw8⟩ : ∃ w8, w8 = w7.alloc (.cells #[.string nm, .slice A n c] 63) := ⟨_, rfl⟩;have hs8 := (HS6.out.below hb7).below hba;have hp8 : Bx (w7.alloc (.cells #[.string nm, .slice A n c] 63)) gp 63 #[.string nm, .slice A n c] := by rw [hgp]; exact Bx.new w7 _ _
 have ht8 := hT7.below hba;rw [<- hw8] at hs8 hp8 ht8;have HGP := zI hgp;have HW8 := zI hw8;have HS8 := zI hs8.re;have HZ8 := zI (show w7.heap.size <= w8.heap.size from by rw [hw8]; simp);have HB8 := zI (Chg.madeF HB5.out hs8.chg HGE.out);have HP8 := zI hp8;have HT8 := zI ht8;have HC7 := zI hc7
 have HA8 := zI (show AIn (fun b => ¬ (b = gu \/ b = gc)) A from fun a e => by
  have h1 := (hA7 a e).1;have h2 := HS6.out.un.bx.lt;have h3 := HS6.out.box.lt;rintro (e | e) <;> omega)
 have HAG := zI (show AIn (fun b => ¬ b = gr) A from fun a e => by
  have h1 := (hA7 a e).1;have h2 := HS6.out.res.lt;omega)
 have HAM := zI (show ∀ W, w7.heap.size <= W.heap.size -> AIn (made w W) A from fun W hW a e => by
  have h1 := hA7 a e;have h2 := (Chg.madeF HB5.out HS6.out.chg HGE.out).size;exact ⟨by have := h1.1; omega, by have := h1.2; omega⟩)
 have HGPC := zI (show gp ≠ gc /\ gp ≠ gu from by
  have h2 := HS6.out.un.bx.lt;have h3 := HS6.out.box.lt;have h4 := hb7.size;omega)
 clear hT7 hc7 hA7 hb7 hba hgp hw8 hs8 hp8 ht8;go_upto_region 4 with fail
 rw [<- HW8.out, <- HGP.out];have p0 := HP8.out.at_ 0 (v := .string nm) rfl;have p1 := HP8.out.at_ 1 (v := .slice A n c) rfl;have f3 := HS8.out.box.free 3;have x3 := HS8.out.box.at_ 3 (v := .string ⟨#[]⟩) rfl;have x4 := HS8.out.box.at_ 4 (v := .slice none 0 0) rfl;have f4 := HS8.out.box.free 4;have hs9 := (HS8.out.set 3 (.string nm)).set 4 (.slice A n c);have hp9 := (HP8.out.other (p := ⟨gc, 3, none⟩) HGPC.out.1 (.string nm)).other (p := ⟨gc, 4, none⟩) HGPC.out.1 (.slice A n c);have HS9 := zI hs9;have HP9 := zI hp9;have q1 := hp9.at_ 1 (v := .slice A n c) rfl;clear hs9 hp9;go_wp2_with fail
 clear q1 p0 p1 f3 f4 x3 x4;obtain ⟨w9, hw9⟩ : ∃ w9, w9 = (w8.setCell ⟨gc, 3, none⟩ (.string nm)).setCell ⟨gc, 4, none⟩ (.slice A n c) := ⟨_, rfl⟩;rw [<- hw9] at HS9 HP9 ⊢;clear hw9;have HS9' := zI (show CgS w8 w9 gu gc gr (fl.flatMap (fun v => le 8 (u64 v)) ++ L5) (catG g i now nm A n c none 0 0 none 0 0) from by rw [<- H4.out]; exact HS9.out);clear HS9;go_loopw [34] (fun j wr => ∃ (q : Nat) (B : Option Addr) (c2 : Nat), q <= n /\ j = .int .i64 (q : Int) /\ CgS w8 wr gu gc gr ((fl.drop q).flatMap (fun v => le 8 (u64 v)) ++ L5) (catG g i now nm A n c B q c2 none 0 0) /\ wr.ownsRow w8.heap.size 3 1 (.slice B q c2) q ((fl.take q).map (Value.int .i64))) (fun j _ => n - (intOf j).toNat)
 case atStart => exact ⟨0, none, 0, Nat.zero_le _, rfl, HS9'.out, World.ownsRow_nil _ _ _ _⟩
 case round =>
  obtain ⟨q, B, c2, hq, rfl, hS, hR⟩ := hrel;by_cases hlt : q < n
  · have Q : q < fl.length := by rw [HFN.out]; exact hlt
    have HDQ := zI (show (fl.drop q).flatMap (fun v => le 8 (u64 v)) ++ L5 = le 8 (u64 fl[q]) ++ ((fl.drop (q + 1)).flatMap (fun v => le 8 (u64 v)) ++ L5) from by rw [List.drop_eq_getElem_cons Q, List.flatMap_cons, List.append_assoc]);have HTQ := zI (show fl.take (q + 1) = fl.take q ++ [fl[q]] from List.take_succ_eq_append_getElem Q);have HZ := zI (HF.out.hflo _ (List.getElem_mem Q))
    have HLQ := zI (show ((fl.drop (q + 1)).flatMap (fun v => le 8 (u64 v)) ++ L5).length <= 900000 from by
     have := HK5.out;rw [List.length_append, Jem (fun v => le 8 (u64 v)) 8 (fun a => Jaz 8 _), List.length_drop, HFN.out];omega)
    obtain ⟨RR, hRR⟩ : ∃ RR, RR = (fl.drop (q + 1)).flatMap (fun v => le 8 (u64 v)) ++ L5 := ⟨_, rfl⟩;rw [<- hRR] at HLQ HDQ;have HRR := zI hRR;rw [HDQ.out] at hS;generalize fl[q]'Q = z at *;have hdr := (Below.refl wr.heap.size wr).drew;have HSD := zI (hS.below hdr);have HRD := zI (Jaj hR hdr);have t5 := hS.box.at_ 5 (v := .slice B q c2) rfl;have t5' := HSD.out.box.at_ 5 (v := .slice B q c2) rfl;have HIN := zI (Jjz gu z RR wr.drew HSD.out.un (by have := HZ.out; omega) HLQ.out);have HQK := zI (show q + 1 <= 1000000 from by omega);have HLW := zI (show gu < w8.heap.size /\ gc < w8.heap.size from ⟨HS8.out.un.bx.lt, HS8.out.box.lt⟩);clear hS hR hdr hRR;go_wp2_with fail
    go_region_law (first
     | (refine Jvw (by rfl) _ _ (by rfl) HR9.out (by rfl) (some ⟨w8'.heap.size, 0, none⟩) 1 1 [.int .i64 z] (by rfl) rfl HSL.out HON.out HQK.out HBS.out ?_
        intro A7 c7 w9' ho9 hg9;have X9 := zI (show CgS w8 w9' gu gc gr RR (catG g i now nm A n c B q c2 none 0 0) from HC9.out.row HR9.out hg9 (Nat.le_refl _) (by decide) (by decide));have d8 := X9.out.box.at_ 5 (v := .slice B q c2) rfl;have f8 := X9.out.box.free 5)
     | (go_simp
        go_at_call 127
        refine HIN.out.mono ?_;rintro e w8' ⟨rfl, hu8, hg8⟩;have hba8 := (Below.refl w8'.heap.size w8').alloc (Nat.le_refl _) (.cells #[.int .i64 z] 3);have HC8 := zI (HSD.out.read hu8 hg8);have HC9 := zI (HC8.out.below hba8);have HR9 := zI (Jaj (HRD.out.kept hg8 (.inr fun e => by have := (HRD.out.lt _ e).1; have := HLW.out; omega)) hba8);have HSL := zI (Sl.new w8' 3 w8'.heap.size [.int .i64 z] #[.int .i64 z] rfl rfl);have HON := zI (show ∀ u ∈ [Value.int .i64 z], u.oneCell' = true from by intro u hu; rw [List.mem_singleton.1 hu]; rfl);have HBS := zI (show w8.heap.size <= (w8'.alloc (.cells #[.int .i64 z] 3)).heap.size from HC9.out.chg.size);have d6 := HC8.out.box.at_ 5 (v := .slice B q c2) rfl;have d7 := HC9.out.box.at_ 5 (v := .slice B q c2) rfl;clear hu8 hg8 hba8))
    all_goals
     have HCN := zI (X9.out.set 5 (.slice A7 (q + 1) c7))
     have HRN := zI (show (w9'.setCell ⟨gc, 5, none⟩ (.slice A7 (q + 1) c7)).ownsRow w8.heap.size 3 1 (.slice A7 (q + 1) c7) (q + 1) ((fl.take (q + 1)).map (Value.int .i64)) from by
      rw [HTQ.out, List.map_append];exact ho9.kept (Jai w9' gc 5 _) (.inr fun e => (X9.out.box.not_row ho9 (by decide)) e.symm))
     rw [HRR.out] at HCN;clear ho9 hg9;go_wp2_with fail
     go_roundw
     case rel => exact ⟨q + 1, A7, c7, by omega, by go_num, HCN.out, HRN.out⟩
     case measure => simp [intOf]; omega
  · have hqe : q = n := by omega
    have HDD := zI (show (fl.drop q).flatMap (fun v => le 8 (u64 v)) ++ L5 = L5 from by rw [hqe, <- HFN.out, List.drop_length]; rfl);have HTT := zI (show fl.take q = fl from by rw [hqe, <- HFN.out, List.take_length]);rw [HDD.out, hqe] at hS;rw [HTT.out, hqe] at hR;rw [hqe];clear hqe;obtain ⟨wo, hwo⟩ : ∃ wo : World, wo = wr := ⟨_, rfl⟩;rw [<- hwo] at hS hR ⊢;have HS := zI hS;have HR := zI hR;clear hS hR hwo;have HT2 := zI (show Calls Tryz.prog 129 #[.pointer (some ⟨gu, 0, none⟩)] wo fun e w' => e = .returned (.string ⟨#[]⟩) /\ UnAt w' gu L6 /\ wo.grownBy w' (some gu) from Jo3 gu [] L6 wo (by rw [<- H5.out]; exact HS.out.un) (by simp) (by have := HK6.out; omega));have HLW := zI (show gu < w8.heap.size /\ gc < w8.heap.size from ⟨HS8.out.un.bx.lt, HS8.out.box.lt⟩);go_wp2_with fail
    refine HT2.out.mono ?_;rintro e w10 ⟨rfl, hu10, hg10⟩;have HS10 := zI (HS.out.read hu10 hg10);have HR10 := zI (HR.out.kept hg10 (.inr fun e => by have := (HR.out.lt _ e).1; have := HLW.out; omega));clear hu10 hg10 HT2;have x7 := HS10.out.box.at_ 7 (v := .slice none 0 0) rfl;go_wp2_with fail
    clear x7;obtain ⟨wq, hwq⟩ : ∃ wq : World, wq = w10 := ⟨_, rfl⟩;rw [<- hwq] at HS10 HR10 ⊢;clear hwq;go_loopw [75] (fun j wr => j = .int .i64 0 /\ wq = wr) (fun _ _ => 0)
    case atStart => exact ⟨rfl, rfl⟩
    case round =>
     obtain ⟨rfl, hw⟩ := hrel;subst hw;have HI1 := zI (Jjz gu 0 L7 wq (by rw [<- H6.out]; exact HS10.out.un) (by omega) (by have := HK7.out; omega));go_wp2_with fail
     refine HI1.out.mono ?_;rintro e w11 ⟨rfl, hu11, hg11⟩;have HS11 := zI (HS10.out.read hu11 hg11);have HR11 := zI (HR10.out.kept hg11 (.inr fun e => by have := (HR10.out.lt _ e).1; have := HLW.out; omega));have HI2 := zI (Jjz gu 0 L8 w11 (by rw [<- H7.out]; exact HS11.out.un) (by omega) (by have := HK8.out; omega));clear hu11 hg11 HI1;go_wp2_with fail
     refine HI2.out.mono ?_;rintro e w12 ⟨rfl, hu12, hg12⟩;have hs12 := HS11.out.read hu12 hg12;have hr12 := HR11.out.kept hg12 (.inr fun e => by have := (HR11.out.lt _ e).1; have := HLW.out; omega);have x9 := hs12.box.at_ 9 (v := .int .i64 0) rfl;have x10 := hs12.box.at_ 10 (v := .int .i64 0) rfl;have f9 := hs12.box.free 9;have f10 := hs12.box.free 10;have HS13 := zI (show CgS w8 ((w12.setCell ⟨gc, 9, none⟩ (.int .i64 0)).setCell ⟨gc, 10, none⟩ (.int .i64 0)) gu gc gr L8 (catG g i now nm A n c B n c2 none 0 0) from (hs12.set 9 (.int .i64 0)).set 10 (.int .i64 0));have hne12 := (hs12.box.not_row hr12 (by decide));have HR13 := zI ((hr12.kept (Jai w12 gc 9 (.int .i64 0)) (.inr fun e => hne12 e.symm)).kept (Jai (w12.setCell ⟨gc, 9, none⟩ (.int .i64 0)) gc 10 (.int .i64 0)) (.inr fun e => hne12 e.symm));clear hu12 hg12 HI2 hs12 hr12 hne12;go_wp2_with fail
     obtain ⟨w13, hw13⟩ : ∃ w13, w13 = (w12.setCell ⟨gc, 9, none⟩ (.int .i64 0)).setCell ⟨gc, 10, none⟩ (.int .i64 0) := ⟨_, rfl⟩;rw [<- hw13] at HS13 HR13 ⊢;clear hw13 x9 x10 f9 f10;have HES := zI (Jqu gu es [] w13 (by rw [<- H8.out]; exact HS13.out.un) (fun e he => (HF.out.hok e he).fit HF.out.hi) HF.out.hen (by have := HK8.out; rw [H8.out, List.length_append] at this; omega));refine HES.out.mono ?_;rintro e w14 ⟨v, ms, rfl, hms, hER, hu14⟩;have hen : ms.length = en := (by rw [HEN.out, <- hms, List.length_map])
     obtain ⟨E, ec, rfl, hEM⟩ := hER.ems (fun m hm => by
      have he : m.e ∈ es := by rw [<- hms]; exact List.mem_map.2 ⟨m, hm, rfl⟩
      exact ⟨(HF.out.hok _ he).bl, (HF.out.hok _ he).len.2⟩)
     rw [hen] at hEM;rw [hen];have hs14 := HS13.out.readC hu14 hER.chg;have hr14 := Jaw HR13.out hER.chg (Jyi HR13.out HLW.out.1);have x11 := hs14.box.at_ 11 (v := .slice none 0 0) rfl;have f11 := hs14.box.free 11;have hne14 := (hs14.box.not_row hr14 (by decide));have HS15 := zI (show CgS w8 (w14.setCell ⟨gc, 11, none⟩ (.slice E en ec)) gu gc gr [] (Jax g i now nm A n c B c2 E en ec) from hs14.set 11 (.slice E en ec));have HR15 := zI (hr14.kept (Jai w14 gc 11 (.slice E en ec)) (.inr fun e => hne14 e.symm))
     have HE15 := zI (hEM.chg (Chg.set (F := fun b => b = gc) w14 ⟨gc, 11, none⟩ (.slice E en ec) rfl) (fun b hb e => by
      have h1 := hb.1;have h2 := HS13.out.box.lt;omega))
     have HMS := zI hms;have HZ13 := zI (show w8.heap.size <= w13.heap.size /\ w13.heap.size <= w14.heap.size from ⟨HS13.out.chg.size, hER.chg.size⟩);clear hms hER hu14 hEM hs14 hr14 hne14 hen;go_wp2_with fail
     obtain ⟨w15, hw15⟩ : ∃ w15, w15 = w14.setCell ⟨gc, 11, none⟩ (.slice E en ec) := ⟨_, rfl⟩;have HZ15 := zI (show w14.heap.size = w15.heap.size from by rw [hw15]; simp);rw [<- hw15] at HS15 HR15 HE15 ⊢;clear hw15 x11 f11;refine (Jqp gu [] w15 HS15.out.un).mono ?_;rintro e w15' ⟨rfl, hw⟩;subst hw;have HBW := zI (Chg.madeF HB8.out HS15.out.chg HGE.out)
     have HCO := zI (show Jf4 w15 (made w w15) g i now nm A n c B c2 E en ec ts fl ms from by
      have f := HF.out;have hbw := HBW.out.size;have hb8 := HB8.out.size;have hz := HZ13.out;have hz15 := HZ15.out;refine ⟨f.hg, f.hi, f.hnow, f.hnm, HT8.out.chg HS15.out.chg HA8.out, HC7.out, f.hck, ?_, f.hflo, HE15.out.sub (fun b hb => ⟨by have := hb.1; omega, by have := hb.2; omega⟩), by have := f.hen; rw [HEN.out]; exact this, fun m hm => f.hok _ (by rw [<- HMS.out]; exact List.mem_map.2 ⟨m, hm, rfl⟩), by rw [Jqv, HMS.out]; exact f.hsh, by rw [Jj8, HMS.out]; exact f.hbl, by rw [HMS.out]; exact f.hlen⟩;obtain ⟨_, _, e, hh⟩ := Jaq HR15.out;cases e
      exact ⟨hh, HFN.out, by unfold maxLen; omega, fun z hz => Jbz (by have := f.hflo z hz; omega)⟩)
     have HPU := zI (Jyh g i now nm A n c B c2 E en ec ts fl ms w15 HCO.out (HGL.out.below HBW.out));rw [HMS.out, HLL.out, <- HSS.out] at HPU;obtain ⟨x0, x1, x2, x3, x4, x5, x6, x7, x8, x9, x10, x11⟩ := Jbd HS15.out.box;go_wp2_with fail
     refine HPU.out.mono ?_;rintro e w16 ⟨rfl, hb16⟩;have HT16 := zI ((HT8.out.chg HS15.out.chg HA8.out).below hb16);have HE16 := zI (HE15.out.below hb16);have HBW6 := zI (HBW.out.trans (hb16.mono HBW.out.size));have HX16 := zI (HS15.out.box.below hb16);have HY16 := zI (HS15.out.res.below hb16);have HR16 := zI (Jaj HR15.out hb16);have HZ16 := zI hb16.size;clear hb16 x0 x1 x2 x3 x4 x5 x6 x7 x8 x9 x10 x11;obtain ⟨x0, x1, x2, x3, x4, x5, x6, x7, x8, x9, x10, x11⟩ := Jbd HX16.out;have hy := HY16.out;have y0 := hy.at_ 0 rfl;have y1 := hy.at_ 1 rfl;have y2 := hy.at_ 2 rfl;have y3 := hy.at_ 3 rfl;have y4 := hy.at_ 4 rfl;have y5 := hy.at_ 5 rfl;have y6 := hy.at_ 6 rfl;have y7 := hy.at_ 7 rfl;have y8 := hy.at_ 8 rfl;have y9 := hy.at_ 9 rfl;have y10 := hy.at_ 10 rfl;have y11 := hy.at_ 11 rfl;have f0 := hy.free 0;have f1 := hy.free 1;have f2 := hy.free 2;have f3 := hy.free 3;have f4 := hy.free 4;have f5 := hy.free 5;have f6 := hy.free 6;have f7 := hy.free 7;have f8 := hy.free 8;have f9 := hy.free 9;have f10 := hy.free 10;have f11 := hy.free 11;clear hy;go_wp2_with fail
     clear x0 x1 x2 x3 x4 x5 x6 x7 x8 x9 x10 x11 y0 y1 y2 y3 y4 y5 y6 y7 y8 y9 y10 y11 f0 f1 f2 f3 f4 f5 f6 f7 f8 f9 f10 f11;obtain ⟨w17, hw17⟩ : ∃ w17, w17 = putC w16 gr 0 [.int .u64 (g : Int), .int .u64 (i : Int), .int .i64 now, .string nm, .slice A n c, .slice B n c2, .string ByteArray.empty, .slice none 0 0, .slice none 0 0, .int .i64 0, .int .i64 0, .slice E en ec] := ⟨_, rfl⟩;have hx17 := Jbv HY16.out [.int .u64 (g : Int), .int .u64 (i : Int), .int .i64 now, .string nm, .slice A n c, .slice B n c2, .string ByteArray.empty, .slice none 0 0, .slice none 0 0, .int .i64 0, .int .i64 0, .slice E en ec] rfl;have hb17 := Jar (B := w.heap.size) [.int .u64 (g : Int), .int .u64 (i : Int), .int .i64 now, .string nm, .slice A n c, .slice B n c2, .string ByteArray.empty, .slice none 0 0, .slice none 0 0, .int .i64 0, .int .i64 0, .slice E en ec] (show w.heap.size <= gr from Nat.le_of_eq HGR.out.symm) w16 0;have hc17 := Jdt (g := gr) [.int .u64 (g : Int), .int .u64 (i : Int), .int .i64 now, .string nm, .slice A n c, .slice B n c2, .string ByteArray.empty, .slice none 0 0, .slice none 0 0, .int .i64 0, .int .i64 0, .slice E en ec] w16 0;rw [<- hw17] at hx17 hb17 hc17;simp only [putC, Nat.zero_add, Nat.reduceAdd] at hw17;rw [<- hw17];have q0 := hx17.at_ 0 rfl;have q1 := hx17.at_ 1 rfl;have q2 := hx17.at_ 2 rfl;have q3 := hx17.at_ 3 rfl;have q4 := hx17.at_ 4 rfl;have q5 := hx17.at_ 5 rfl;have q6 := hx17.at_ 6 rfl;have q7 := hx17.at_ 7 rfl;have q8 := hx17.at_ 8 rfl;have q9 := hx17.at_ 9 rfl;have q10 := hx17.at_ 10 rfl;have q11 := hx17.at_ 11 rfl;refine bodyPost_ret (v := .tuple #[.agg (Jax g i now nm A n c B c2 E en ec), .int .i64 0]) (by simp [results, Tryz.results66, go_sem, q0, q1, q2, q3, q4, q5, q6, q7, q8, q9, q10, q11]) rfl ⟨A, c, B, c2, E, ec, ms, rfl, HMS.out, ?_, ?_, ?_, HBW6.out.trans hb17⟩
     · have f := HF.out
       have hbw := HBW.out.size;have hb8 := HB8.out.size;have hz := HZ13.out;have hz15 := HZ15.out;have hz16 := HZ16.out;have hz17 := hc17.size;have hgl := HGR.out;have hlo := HLO.out;have hlw := HLW.out;refine ⟨f.hg, f.hi, f.hnow, f.hnm, HT16.out.chg hc17 HAG.out, HC7.out, f.hck, ?_, f.hflo, (HE16.out.chg hc17 (fun b hb e => by have := hb.1; omega)).sub (fun b hb => ⟨by have := hb.1; omega, by have := hb.2; omega⟩), by have := f.hen; rw [HEN.out]; exact this, fun m hm => f.hok _ (by rw [<- HMS.out]; exact List.mem_map.2 ⟨m, hm, rfl⟩), by rw [Jqv, HMS.out]; exact f.hsh, by rw [Jj8, HMS.out]; exact f.hbl, by rw [HMS.out]; exact f.hlen⟩;obtain ⟨_, _, e, hh⟩ := Jaq (Jaw HR16.out hc17 (fun b hb e => by have := (HR16.out.lt b hb).1; omega));cases e
       exact ⟨hh, HFN.out, by unfold maxLen; omega, fun z hz => Jbz (by have := f.hflo z hz; omega)⟩
     · exact HAM.out _ (by have h1 := HZ13.out; have h2 := HZ15.out; have h3 := HZ16.out; have h4 := hc17.size; have h5 := HZ8.out; omega)
     · intro a e
       subst e;have h0 := HR16.out.lt a.block rfl;have h4 := hc17.size;have hb8 := HB8.out.size;exact ⟨by omega, by omega⟩
end Go.Proofs.YtalkkhafcfhglaaGreatDoor
