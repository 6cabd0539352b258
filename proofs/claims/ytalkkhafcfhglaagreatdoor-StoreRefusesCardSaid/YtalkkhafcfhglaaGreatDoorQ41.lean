/-
  store: save: the parts are laid.
-/
import Derived.Test.YtalkkhafcfhglaaGreatDoorQ40
set_option maxRecDepth 100000
set_option maxHeartbeats 4000000
namespace Go.Proofs.YtalkkhafcfhglaaGreatDoor
open Go.RowKit
theorem Jpm {ops : Array Oper} {rest : List Oper} {o : Oper} {a : Act} {Q : Exit -> Act -> World -> Prop} {w : World} {base : Nat} {v : Value} {n : Nat} {xs : List Value} (hgd : o.guard = none) (s x : Operand)
  (ho : o.op = .call { callee := .builtin .append, args := #[s, x], argTypes := #[91, 91] }) (h : w.ownsRow base 144 7 v n xs) (hs : a.eval s = v) (A : Option Addr) (m c : Nat) (news : List Value) (hx : a.eval x = .slice A m c)
  (hl : news.length = m * 7) (hsl : Sl w A news) (h1 : ∀ u ∈ news, u.oneCell' = true) (hn : n + m <= 1000000) (hb : base <= w.heap.size)
  (hK : ∀ A' c' w', w'.ownsRow base 144 7 (.slice A' (n + m) c') (n + m) (xs ++ news) -> w.grownBy w' v.ownBlock -> ((Value.slice A' (n + m) c').ownBlock = v.ownBlock \/ (Value.slice A' (n + m) c').ownBlock = some w.heap.size) -> wpList Tryz.prog ops Q rest (a.put o.dst (.slice A' (n + m) c')) w') : wpList Tryz.prog ops Q (o :: rest) a w := by
 obtain ⟨i0, hi, hz0, hz1, hz2⟩ := info_parts Jjf;refine Jan (P := Tryz.prog) w hgd s x 91 ho base 144 i0 _ 7 88 Tryz.underlying91 hi hz0 hz1 hz2 rfl (by decide) v n xs hs h A m c news hx hl hsl h1 (by unfold maxLen; omega) (by omega) hb ?_;intro v' w' h2 h3 h4;obtain ⟨A', c', rfl, _⟩ := Jaq h2;exact hK A' c' w' h2 h3 h4
structure SaP (w1 wr : World) (FB FD : Nat -> Prop) (gx : Nat) (E : Option Addr) (k ec : Nat) (ps : List Pm) : Prop where
 row : wr.ownsRow w1.heap.size 144 7 (.slice E k ec) k (ps.flatMap Pm.cells)
 out : ∀ z, (Value.slice E k ec).ownBlock = some z -> Apart FB FD gx wr z
 at_ : ∀ p ∈ ps, PmAt wr (fun x => Apart FB FD gx wr x /\ (Value.slice E k ec).ownBlock ≠ some x) p
 len : ps.length = k
section
variable {w1 wr w' : World} {FB FD FB' FD' : Nat -> Prop} {gx : Nat} {E : Option Addr} {k ec : Nat} {ps : List Pm}
theorem SaP.turn (h : SaP w1 wr FB FD gx E k ec ps) (hT : SvT wr w' FB FD FB' FD' gx) : SaP w1 w' FB' FD' gx E k ec ps := by
 refine ⟨Jaw h.row hT.chg (fun b hb hf => Apart.not b (h.out b hb) hf), fun z hz => hT.apart (h.out z hz), fun p hp => ?_, h.len⟩;have h1 := (h.at_ p hp).chg hT.chg (fun x hx hf => Apart.not x hx.1 hf);exact h1.sub (fun x hx => ⟨hT.apart hx.1, hx.2⟩)
theorem SaP.below (h : SaP w1 wr FB FD gx E k ec ps) (hb : Below wr.heap.size wr w') : SaP w1 w' FB FD gx E k ec ps := h.turn (SvT.of_below FB FD gx hb)
theorem SaP.put {E' : Option Addr} {ec' : Nat} (h : SaP w1 wr FB FD gx E k ec ps) (hFB : ∀ x, FB x -> x < wr.heap.size) (hFD : ∀ x, FD x -> x < wr.heap.size) (hgx : gx < wr.heap.size) (p : Pm) (hp : PmAt wr (fun x => Apart FB FD gx wr x /\ (Value.slice E k ec).ownBlock ≠ some x) p) (hg : wr.grownBy w' (Value.slice E k ec).ownBlock)
  (ho : w'.ownsRow w1.heap.size 144 7 (.slice E' (k + 1) ec') (k + 1) (ps.flatMap Pm.cells ++ p.cells)) (hb : (Value.slice E' (k + 1) ec').ownBlock = (Value.slice E k ec).ownBlock \/ (Value.slice E' (k + 1) ec').ownBlock = some wr.heap.size) : SaP w1 w' FB FD gx E' (k + 1) ec' (ps ++ [p]) := by
 have hc := Chg.of_grown (F := fun b => (Value.slice E k ec).ownBlock = some b) hg (fun b e => e);have up : ∀ x, Apart FB FD gx wr x -> Apart FB FD gx w' x := fun x hx => ⟨hx.1, hx.2.1, hx.2.2.1, Nat.lt_of_lt_of_le hx.2.2.2 hg.size⟩
 have key : ∀ y : Pm, PmAt wr (fun x => Apart FB FD gx wr x /\ (Value.slice E k ec).ownBlock ≠ some x) y -> PmAt w' (fun x => Apart FB FD gx w' x /\ (Value.slice E' (k + 1) ec').ownBlock ≠ some x) y := fun y hy =>
  (hy.chg hc (fun x hx hf => hx.2 hf)).sub (fun x hx => ⟨up x hx.1, fun e => by
    rcases hb with hb | hb
    · exact hx.2 (by rw [<- hb]; exact e)
    · rw [hb] at e
      cases e
      have := hx.1.2.2.2;omega⟩)
 refine ⟨?_, fun z hz => ?_, fun q hq => ?_, by rw [List.length_append, h.len]; rfl⟩
 · rw [List.flatMap_append]; simpa using ho
 · rcases hb with hb | hb
   · exact up z (h.out z (by rw [<- hb]; exact hz))
   · have hz2 := (ho.lt z hz).2
     rw [hb] at hz;cases hz
     exact ⟨fun hh => by have := hFB _ hh; omega, fun hh => by have := hFD _ hh; omega, by omega, hz2⟩
 · rcases List.mem_append.1 hq with hq | hq
   · exact key q (h.at_ q hq)
   · rw [List.mem_singleton.1 hq]; exact key p hp
theorem SaP.pms (h : SaP w1 wr FB FD gx E k ec ps) : Jf3 wr (Apart FB FD gx wr) E k ps := by
 obtain ⟨_, _, e, hs⟩ := Jaq h.row;cases e
 exact ⟨hs, h.len, fun p hp => (h.at_ p hp).sub (fun x hx => hx.1), fun a e => by
  rcases h.row.2 with ⟨h1, _⟩ | ⟨g, cap, cur, h1, _⟩
  · injection h1 with h1; rw [h1] at e; cases e
  · have h2 := h.out a.block (by rw [e]; injection h1 with h1; rw [h1] at e; cases e; rfl)
    exact h2⟩
end
theorem Jyl (l : List Wm) (j : Nat) (hj : j < l.length) (q : Nat) (hq : q < 7) : (l.flatMap Wm.cells)[j * 7 + q]? = l[j].cells[q]? := by
 induction l generalizing j with
 | nil => simp at hj
 | cons r s ih =>
   have hl : r.cells.length = 7 := rfl;rw [List.flatMap_cons];cases j with
   | zero =>
     rw [List.getElem?_append_left (by rw [hl]; omega)]
     simp
   | succ j =>
     rw [List.getElem?_append_right (by rw [hl]; omega), hl, show (j + 1) * 7 + q - 7 = j * 7 + q from by omega, ih j (by simpa using hj)];rfl
theorem Jym (l : List Wm) : (l.flatMap Wm.cells).length = l.length * 7 := by
 induction l with
 | nil => rfl
 | cons a r ih => rw [List.flatMap_cons, List.length_append, ih, show a.cells.length = 7 from rfl, List.length_cons]; omega
theorem J5g {w : World} {A : Option Addr} {ws : List Wm} (h : Sl w A (ws.flatMap Wm.cells)) {j : Nat} (hj : j < ws.length) : ∃ b off, A = some ⟨b, off, none⟩ /\ b < w.heap.size /\ Jw5 w b (off + j * 7) ws[j].raw := by
 have hne : ws.flatMap Wm.cells ≠ [] := by
  intro e;have := Jym ws;rw [e] at this;simp only [List.length_nil] at this;omega
 obtain ⟨b, off, e, hb, hc⟩ := h.at_ hne;refine ⟨b, off, e, hb, ?_⟩
 have X : ∀ q (hq : q < 7), w.cell? ⟨b, off + j * 7 + q, none⟩ = ws[j].cells[q]? := fun q hq => by
  have hq' : ws[j].cells[q]? = some (ws[j].cells[q]'hq) := List.getElem?_eq_getElem _;rw [hq', Nat.add_assoc];exact hc (j * 7 + q) _ (by rw [Jyl ws j hj q hq, hq'])
 exact ⟨X 0 (by omega), X 1 (by omega), X 2 (by omega), X 3 (by omega), X 4 (by omega), X 5 (by omega), X 6 (by omega)⟩
theorem SvG.hold {D N : Nat} {v0 v : SvV} {xs : List Wv} {ps : List Pm} (h : SvG D N v0 xs v) (hx : WvOk xs) (hp : ps.map Pm.e = v.es) : Jj0 D N ps := by
 have hl : ps.length = v.es.length := by rw [<- hp, List.length_map]
 have key : ∀ p ∈ ps, ∃ j, ∃ (h1 : j < v.es.length) (h2 : j < xs.length), p.e = v.es[j] := fun p hm => by
  have h1 : p.e ∈ v.es := by rw [<- hp]; exact List.mem_map_of_mem hm
  obtain ⟨j, hj, e⟩ := List.getElem_of_mem h1;exact ⟨j, hj, by rw [<- h.es]; exact hj, e.symm⟩
 refine ⟨fun p hm => ?_, fun p hm => ?_, fun p hm e => ?_, fun p hm z hz => ?_, ?_⟩
 · obtain ⟨j, h1, h2, e⟩ := key p hm
   have h3 := h.at_ j h1 h2;have h4 := hx.fit _ (List.getElem_mem h2);rw [e, h3.1]; exact h4.1
 · obtain ⟨j, h1, h2, e⟩ := key p hm
   have h3 := h.at_ j h1 h2;have h4 := hx.fit _ (List.getElem_mem h2);rw [e, h3.2.1]; omega
 · obtain ⟨j, h1, h2, e1⟩ := key p hm
   have h3 := h.at_ j h1 h2;have h4 := hx.fit _ (List.getElem_mem h2);have h5 := h3.2.2.1;rw [<- e1, e] at h5;have h6 := h4.2.2.1;unfold sgN at h5;simp only [List.length_nil] at h5;omega
 · exact h.bl _ (by rw [<- hp]; exact List.mem_map_of_mem hm) z hz
 · have := h.nodup
   rw [<- hp, List.flatMap_map] at this;exact this
theorem J4k {FB FD FT : Nat -> Prop} {gx N C B D R gd gen id mp bk q nP gs room : Nat} {lg : Option Addr} {bad : Int} {us : List Int} {a b m : Option (List Int)} {f : Int -> Option ByteArray} {t : Tv} (w : World)
  (h : SvS w FB FD gx N C B D R gd gen id mp bk q nP lg bad (fun _ _ => none) us a b m f) (hL : Jex N C B D R) (hS : StAt w FT gs room t) (hFT : ∀ x, FT x -> Apart FB FD gx w x) (hW : t.Want) (hV : WvOk (Jah t t.tabs.length)) (hG : Glo w)
  (hfit : ∀ v, SvG D N ⟨id, us, f, []⟩ (Jah t t.tabs.length) v -> Jhk (gen + 1) v.id t.r.now t.r.nm t.r.ts t.r.all v.es /\ (catB (gen + 1) v.id t.r.now (Py.printL t.r.nm.toList t.r.ts) t.r.all v.es).length <= C * 256)
  (hlow : gB <= gx /\ ∀ x, FB x \/ FD x -> gB <= x) (hid : id < 1000000) (hgen : gen < 1000000) (hroom : us.length + needW (Jah t t.tabs.length) <= N - D) (hq : q <= 500000) :
  Calls Tryz.prog 41 #[.pointer (some ⟨gx, 0, none⟩), .pointer (some ⟨gs, 0, none⟩)] w fun e w' => ∃ FB' FD' mp' bk' gl ps v q', e = .returned (.int .i64 0) /\ SvG D N ⟨id, us, f, []⟩ (Jah t t.tabs.length) v /\ ps.map Pm.e = v.es /\ q' <= q + 10000 /\
   SvS w' FB' FD' gx N C B D R gd (gen + 1) v.id mp' bk' q' ps.length (some ⟨gl, 0, none⟩) bad (mapOf ps) (usOf ps) none (Jcy ps) none
    (setS (putN v.f (Jcb B (gen + 1)) (chC (catB (gen + 1) v.id t.r.now (Py.printL t.r.nm.toList t.r.ts) t.r.all v.es)) (nbC (catB (gen + 1) v.id t.r.now (Py.printL t.r.nm.toList t.r.ts) t.r.all v.es))) (((gen + 1) % 2 : Nat) : Int) (strOf (suB (gen + 1) N (catB (gen + 1) v.id t.r.now (Py.printL t.r.nm.toList t.r.ts) t.r.all v.es).length))) /\
   Jqw w' gl ⟨gd, 0, none⟩ 2 16 (gen + 1) /\ SvT w w' FB FD FB' FD' gx /\ w.heap.size <= mp' /\ w.heap.size <= gl := by
 obtain ⟨xs, hxs⟩ : ∃ xs, xs = Jah t t.tabs.length := ⟨_, rfl⟩;rw [<- hxs] at hV hfit hroom ⊢;have HWN := zI (Jx1 w hS hW);rw [<- hxs] at HWN;have HV := zI h;have HST := zI hS;have HFT := zI hFT;have HGL := zI hG;have HFI := zI hfit;have HRM := zI hroom;have HLY := zI hL;have HWV := zI hV;have HXS := zI hxs;have HGN := zI hgen;have HID := zI hid;have HLOW := zI hlow;clear hW hlow h hL hS hFT hV hG hfit hroom hxs hgen hid;go_enter Tryz.func41, Tryz.ntmps41;go_wp2_with fail
 refine HWN.out.mono ?_;rintro e w1 ⟨A1, c1, ws, rfl, ho1, hr1, hv1, hb1⟩;obtain ⟨n, hn⟩ : ∃ n, n = ws.length := ⟨_, rfl⟩;have hxl : xs.length = n := by rw [<- hv1, List.length_map, hn]
 have HXL := zI hxl;have HN := zI hn;have HWS := zI hv1;have HV1 := zI (HV.out.below hb1);have HB1 := zI hb1;have hw1z := hb1.size;have HFB := zI (show ∀ x, FB x -> x < w.heap.size from HV.out.book.ins);have HFD := zI (show ∀ x, FD x -> x < w.heap.size from HV.out.disk.ins);have hgx := HV.out.box.lt;have HAP := zI (show ∀ x, w.heap.size <= x -> x < w1.heap.size -> Apart FB FD gx w1 x from fun x h1 h2 => ⟨fun h => by have := HFB.out _ h; omega, fun h => by have := HFD.out _ h; omega, by omega, h2⟩);have HO1 := zI ho1;have HR1 := zI hr1;have hn40 : n <= 40 := by rw [<- hxl]; exact HWV.out.n
 rw [<- hn];clear ho1 hr1 hv1 hb1 hn hxl hw1z hgx;go_wp2_with fail
 go_loopw [5, 18] (fun o j wr => ∃ (k : Nat) (FB' FD' : Nat -> Prop) (a' : Option (List Int)) (E : Option Addr) (ec : Nat) (ps : List Pm) (v : SvV), k <= n /\ j = .int .i64 (k : Int) /\ o = .slice E k ec /\ SvS wr FB' FD' gx N C B D R gd gen v.id mp bk (q + 2 * needW (xs.take k)) nP lg bad (fun _ _ => none) v.us a' b m v.f /\ SvT w1 wr FB FD FB' FD' gx /\ SvG D N ⟨id, us, f, []⟩ (xs.take k) v /\ ps.map Pm.e = v.es /\ SaP w1 wr FB' FD' gx E k ec ps) (fun _ j _ => n - (intOf j).toNat)
 case atStart => exact ⟨0, FB, FD, a, none, 0, [], ⟨id, us, f, []⟩, Nat.zero_le _, rfl, rfl, by simpa [needW] using HV1.out, SvT.refl _ _ _ _, SvG.start D N _ rfl, rfl, ⟨World.ownsRow_nil _ _ _ _, fun z hz => by simp [Value.ownBlock] at hz, fun p hp => by simp at hp, rfl⟩⟩
 case round =>
  obtain ⟨k, FB', FD', a', E, ec, ps, v, hk, rfl, rfl, hV, hT, hG, hps, hP⟩ := hrel;by_cases hlt : k < n
  · have K : k < ws.length := by rw [<- HN.out]; exact hlt
    have hoR := Jaw HO1.out hT.chg (fun b hb hf => Apart.not b (HAP.out b (HO1.out.lt b hb).1 (HO1.out.lt b hb).2) hf);obtain ⟨A2, c2, e2, hsl⟩ := Jaq hoR;obtain ⟨b2, o2, hA2, hb2, hcl⟩ := J5g hsl K;have HRW := zI (HR1.out _ (List.getElem_mem K));have hkx : k < xs.length := by rw [HXL.out]; exact hlt
    have HXK := zI (show xs[k] = (ws[k]).v from by
     have : (ws.map Wm.v)[k]'(by rw [List.length_map]; exact K) = (ws[k]).v := List.getElem_map _;rw [<- this]; congr 1; exact HWS.out.symm)
    have HFX := zI (HWV.out.fit _ (List.getElem_mem hkx));have HTK := zI (show xs.take (k + 1) = xs.take k ++ [xs[k]] from List.take_succ_eq_append_getElem hkx);have HND := zI (Juf xs (k + 1));generalize ws[k]'K = x at *;rw [HXK.out] at HFX HTK;have HNS := zI (Jlo (xs.take k) x.v);rw [<- HTK.out] at HNS;obtain ⟨xt, xsh, xl, xB, xd⟩ := x;unfold Wm.v at HFX HTK HNS HXK;dsimp only at HFX HTK HNS HXK HRW;obtain ⟨len, hlen⟩ : ∃ len, len = xl.length := ⟨_, rfl⟩;obtain ⟨sn, hsn⟩ : ∃ sn, sn = sgN xl.length := ⟨_, rfl⟩;have p0 : wr.cell? ⟨b2, o2 + k * 7, none⟩ = some (.int .u64 0) := hcl.c0;have p1 : wr.cell? ⟨b2, o2 + k * 7 + 1, none⟩ = some (.int .i64 (xt : Int)) := hcl.c1;have p2 : wr.cell? ⟨b2, o2 + k * 7 + 2, none⟩ = some (.int .i64 (xsh : Int)) := hcl.c2;have p3 : wr.cell? ⟨b2, o2 + k * 7 + 3, none⟩ = some (.int .i64 0) := hcl.c3;have p4 : wr.cell? ⟨b2, o2 + k * 7 + 4, none⟩ = some (.int .i64 (sn : Int)) := by rw [hsn]; exact hcl.c4
    have p5 : wr.cell? ⟨b2, o2 + k * 7 + 5, none⟩ = some (.slice none 0 0) := hcl.c5;have p6 : wr.cell? ⟨b2, o2 + k * 7 + 6, none⟩ = some (.slice (adr xB) len xd) := by rw [hlen]; exact hcl.c6
    have e3 : A1 = some ⟨b2, o2, none⟩ := by rw [<- hA2]; cases e2; rfl
    subst e3;obtain ⟨gp, hgp⟩ : ∃ gp, gp = wr.heap.size := ⟨_, rfl⟩;obtain ⟨wb, hwb⟩ : ∃ wb, wb = wr.alloc (.cells #[.int .u64 0, .int .i64 (xt : Int), .int .i64 (xsh : Int), .int .i64 0, .int .i64 (sn : Int), .slice none 0 0, .slice (adr xB) len xd] 144) := ⟨_, rfl⟩;have hxb := Bx.new wr 144 #[.int .u64 0, .int .i64 (xt : Int), .int .i64 (xsh : Int), .int .i64 0, .int .i64 (sn : Int), .slice none 0 0, .slice (adr xB) len xd];rw [<- hwb, <- hgp] at hxb;have hbb := (Below.refl wr.heap.size wr).alloc (Nat.le_refl _) (.cells #[.int .u64 0, .int .i64 (xt : Int), .int .i64 (xsh : Int), .int .i64 0, .int .i64 (sn : Int), .slice none 0 0, .slice (adr xB) len xd] 144);rw [<- hwb] at hbb;have HWB := zI hwb;have HGP := zI hgp;have HLE := zI hlen;have HSN := zI hsn;have HVR := zI hV;have HTR := zI hT;have HGR := zI hG;have HPR := zI hP;have HPE := zI hps;have HVB := zI (hV.below hbb);have HBB := zI hbb;have HXB := zI hxb;have t1 := hxb.at_ 1 (v := .int .i64 (xt : Int)) rfl;have t2 := hxb.at_ 2 (v := .int .i64 (xsh : Int)) rfl;have x10 := HVB.out.box.at_ 10 (v := .map (some mp)) rfl;have hxf := HFX.out;have hlk : (Instr.lookup 44 (.map (some mp)) (.agg #[.int .i64 (xt : Int), .int .i64 (xsh : Int)]) true).run Tryz.prog wb.drew = .ok (.tuple #[.agg #[.int .u64 0, .int .i64 0, .int .i64 0, .int .i64 0, .int .i64 0, .slice none 0 0, .slice none 0 0], .bool false]) wb.drew := (HVB.out.map.below (Below.refl _ _).drew).look (by omega) (by omega);have hbz : Below wb.heap.size wb (wb.alloc (.cells #[.int .u64 0, .int .i64 0, .int .i64 0, .int .i64 0, .int .i64 0, .slice none 0 0, .slice none 0 0] 144)).drew := ((Below.refl wb.heap.size wb).alloc (Nat.le_refl _) (.cells #[.int .u64 0, .int .i64 0, .int .i64 0, .int .i64 0, .int .i64 0, .slice none 0 0, .slice none 0 0] 144)).drew;have hlz : (Instr.lookup 44 (.map (some mp)) (.agg #[.int .i64 (xt : Int), .int .i64 (xsh : Int)]) true).run Tryz.prog (wb.alloc (.cells #[.int .u64 0, .int .i64 0, .int .i64 0, .int .i64 0, .int .i64 0, .slice none 0 0, .slice none 0 0] 144)).drew = .ok (.tuple #[.agg #[.int .u64 0, .int .i64 0, .int .i64 0, .int .i64 0, .int .i64 0, .slice none 0 0, .slice none 0 0], .bool false]) (wb.alloc (.cells #[.int .u64 0, .int .i64 0, .int .i64 0, .int .i64 0, .int .i64 0, .slice none 0 0, .slice none 0 0] 144)).drew := (HVB.out.map.below hbz).look (by omega) (by omega);have z1 := (hxb.below hbz).at_ 1 (v := .int .i64 (xt : Int)) rfl;have z2 := (hxb.below hbz).at_ 2 (v := .int .i64 (xsh : Int)) rfl;have z10 := (HVB.out.box.below hbz).at_ 10 (v := .map (some mp)) rfl;clear hbz hxf hoR e2 hsl hcl hA2 hV hT hG hP hps hwb hgp hlen hsn hxb hbb;go_upto_region 5 with fail
    rw [<- HWB.out, <- HGP.out];clear p0 p1 p2 p3 p4 p5 p6;obtain ⟨w5, hw5⟩ : ∃ w5, w5 = (wb.alloc (.cells #[.int .u64 0, .int .i64 0, .int .i64 0, .int .i64 0, .int .i64 0, .slice none 0 0, .slice none 0 0] 144)).drew := ⟨_, rfl⟩;have hb5 : Below wr.heap.size wr w5 := by rw [hw5]; exact HBB.out.trans ((((Below.refl wb.heap.size wb).alloc (Nat.le_refl _) (.cells #[.int .u64 0, .int .i64 0, .int .i64 0, .int .i64 0, .int .i64 0, .slice none 0 0, .slice none 0 0] 144)).drew).mono HBB.out.size)
    have hbx5 : Below wb.heap.size wb w5 := by rw [hw5]; exact ((Below.refl wb.heap.size wb).alloc (Nat.le_refl _) (.cells #[.int .u64 0, .int .i64 0, .int .i64 0, .int .i64 0, .int .i64 0, .slice none 0 0, .slice none 0 0] 144)).drew
    have hx5 := HXB.out.below hbx5;have hv5 := HVR.out.below hb5;have HP5 := zI (HPR.out.below hb5);have HW5 := zI hw5;have HT5 := zI (HTR.out.trans (SvT.of_below FB' FD' gx hb5));have hrB := Jaw (Jaw HRW.out HTR.out.chg (fun b hb hf => Apart.not b (HAP.out b (HRW.out.lt b hb).1 (HRW.out.lt b hb).2) hf)) (Chg.of_below (F := fun _ => False) hb5) (fun _ _ h => h);have hfx := HFX.out;have hgl := HGR.out;have hnd := HND.out;have hrm := HRM.out;have hns := HNS.out;have hdn := HLY.out.bd;have hdN := HLY.out.n;have hgi : v.id = id + (xs.take k).length := hgl.id;have htl : (xs.take k).length <= 40 := by rw [List.length_take, HXL.out]; omega
    have hii := HID.out;have hul : v.us.length <= us.length + needW (xs.take k) := hgl.len;obtain ⟨_, _, e6, hsB⟩ := Jaq hrB;cases e6
    have hcap := Jqs hrB;have hrc := Jxy hsB hfx.2.2.2.2.1 (by omega);have hrm2 : ((sgN xl.length : Nat) : Int) <= ((N - D : Nat) : Int) - v.us.length := (by omega)
    have haB : AIn (Apart FB' FD' gx w5) (adr xB) := fun a e => by
     have h1 := Jeq HRW.out a e;exact HT5.out.apart (HAP.out _ h1.1 h1.2)
    have HWR : Hid (Calls Tryz.prog 83 #[.pointer (some ⟨gx, 0, none⟩), .agg #[.int .u64 0, .int .i64 (xt : Int), .int .i64 (xsh : Int), .int .i64 0, .int .i64 (sn : Int), .slice none 0 0, .slice (adr xB) len xd]] w5 fun e w' => ∃ FB2 FD2 A' c' id1, id1 = v.id + 1 /\ e = .returned (.tuple #[.agg #[.int .u64 (id1 : Int), .int .i64 (xt : Int), .int .i64 (xsh : Int), .int .i64 0, .int .i64 (sn : Int), .slice (adr A') sn c', .slice (adr xB) len xd], .int .i64 0]) /\
      SvS w' FB2 FD2 gx N C B D R gd gen (v.put D N (xt, xsh, xl)).id mp bk (q + 2 * needW (xs.take (k + 1))) nP lg bad (fun _ _ => none) (v.put D N (xt, xsh, xl)).us (some (Led.insAll (a'.getD []) (v.bl D N (xt, xsh, xl)))) b m (v.put D N (xt, xsh, xl)).f /\ SvT w5 w' FB' FD' FB2 FD2 gx /\ PmAt w' (Apart FB2 FD2 gx w') ⟨v.en D N (xt, xsh, xl), xl, A', c', xB, xd⟩ /\ AIn (made w5 w') (adr A') /\ Led.DrawLaw (D : Int) ((N - D : Nat) : Int) v.us (sgN xl.length : Int) (v.bl D N (xt, xsh, xl))) := by
     have X := J4c ⟨xt, xsh, xl, xB, xd⟩ w5 hv5 HLY.out (by omega) (show xt < 10 by omega) hfx.2.1 hrc haB hfx.2.2.2.2.1 hfx.2.2.2.2.2 ⟨hfx.2.2.1, hfx.2.2.2.1⟩ hcap hrm2 (by omega)
     have e0 : (Wm.raw ⟨xt, xsh, xl, xB, xd⟩).val = .agg #[.int .u64 0, .int .i64 (xt : Int), .int .i64 (xsh : Int), .int .i64 0, .int .i64 (sn : Int), .slice none 0 0, .slice (adr xB) len xd] := by
      unfold Wm.raw PRaw.val;dsimp only;rw [<- HSN.out, <- HLE.out]; rfl
     rw [e0] at X;refine zI (X.mono ?_);rintro e w' ⟨FB2, FD2, A', c', rfl, h1, h2, h3, h4, h5⟩;have hol : (Jki D N v.us (sgN xl.length)).length = sn := by have h6 := h5.len; rw [<- HSN.out] at h6 ⊢; omega
     refine ⟨FB2, FD2, A', c', v.id + 1, rfl, ?_, ?_, h2, h3, h4, h5⟩
     · unfold Pm.raw PRaw.val
       dsimp only;rw [hol, <- HLE.out]
     · rw [hns, show q + 2 * (needW (xs.take k) + sgN xl.length) = q + 2 * needW (xs.take k) + 2 * sgN xl.length from by omega]
       exact h1
    have hPA := HP5.out.row.lt;have HEB := zI (show ∀ z, (Value.slice E k ec).ownBlock = some z -> w1.heap.size <= z /\ z < w5.heap.size from fun z hz => ⟨(HP5.out.row.lt z hz).1, (HP5.out.row.lt z hz).2⟩);have HBE := zI (show ∀ a, adr xB = some a -> a.block < w1.heap.size from fun a e => (Jeq HRW.out a e).2);have HDNL := zI (show D <= N from hdn.2.2.2.2.1);have g0 := hx5.at_ 0 (v := .int .u64 0) rfl;have g1 := hx5.at_ 1 (v := .int .i64 (xt : Int)) rfl;have g2 := hx5.at_ 2 (v := .int .i64 (xsh : Int)) rfl;have g3 := hx5.at_ 3 (v := .int .i64 0) rfl;have g4 := hx5.at_ 4 (v := .int .i64 (sn : Int)) rfl;have g5 := hx5.at_ 5 (v := .slice none 0 0) rfl;have g6 := hx5.at_ 6 (v := .slice (adr xB) len xd) rfl;clear hPA hb5 hbx5 hx5 hv5 hw5 hrB hfx hgl hnd hrm hns hdn hdN hgi htl hii hul hsB hcap hrc hrm2 haB;go_region
    all_goals
     rw [<- HW5.out];clear hlk hlz z1 z2 z10 t1 t2 x10;go_wp2_with fail
     refine HWR.out.mono ?_;rintro e w6 ⟨FB2, FD2, A', c', id1, hid1, rfl, hV6, hT6, hp6, hA6, hD6⟩;have HI1 := zI hid1;have HV6 := zI hV6;have HT6 := zI hT6;have HQ6 := zI hp6;have HA6 := zI hA6;have HD6 := zI hD6;obtain ⟨gq, hgq⟩ : ∃ gq, gq = w6.heap.size := ⟨_, rfl⟩;obtain ⟨w7, hw7⟩ : ∃ w7, w7 = w6.alloc (.cells #[.int .u64 (id1 : Int), .int .i64 (xt : Int), .int .i64 (xsh : Int), .int .i64 0, .int .i64 (sn : Int), .slice (adr A') sn c', .slice (adr xB) len xd] 144) := ⟨_, rfl⟩;have hx7 := Bx.new w6 144 #[.int .u64 (id1 : Int), .int .i64 (xt : Int), .int .i64 (xsh : Int), .int .i64 0, .int .i64 (sn : Int), .slice (adr A') sn c', .slice (adr xB) len xd];have hb7 := (Below.refl w6.heap.size w6).alloc (Nat.le_refl _) (.cells #[.int .u64 (id1 : Int), .int .i64 (xt : Int), .int .i64 (xsh : Int), .int .i64 0, .int .i64 (sn : Int), .slice (adr A') sn c', .slice (adr xB) len xd] 144);rw [<- hw7, <- hgq] at hx7;rw [<- hw7] at hb7;have HW7 := zI hw7;have HGQ := zI hgq;have hol : (v.bl D N (xt, xsh, xl)).length = sn := by have h6 := hD6.len; rw [<- HSN.out] at h6; omega
     obtain ⟨p, hp⟩ : ∃ p : Pm, p = ⟨v.en D N (xt, xsh, xl), xl, A', c', xB, xd⟩ := ⟨_, rfl⟩
     have HCE := zI (show p.cells = [.int .u64 (id1 : Int), .int .i64 (xt : Int), .int .i64 (xsh : Int), .int .i64 0, .int .i64 (sn : Int), .slice (adr A') sn c', .slice (adr xB) len xd] from by
      rw [hp, hid1];unfold Pm.cells Pm.raw PRaw.cells SvV.en;dsimp only;rw [hol, <- HLE.out])
     have hb8 := hb7.trans (((Below.refl w7.heap.size w7).alloc (Nat.le_refl _) (.cells p.cells.toArray 144)).mono hb7.size);have HP8 := zI ((HP5.out.turn hT6).below hb8);have HV8 := zI (hV6.below hb8);have HT8 := zI ((HT5.out.trans hT6).trans (SvT.of_below FB2 FD2 gx hb8))
     have HQ8 := zI (show PmAt (w7.alloc (.cells p.cells.toArray 144)) (fun x => Apart FB2 FD2 gx (w7.alloc (.cells p.cells.toArray 144)) x /\ (Value.slice E k ec).ownBlock ≠ some x) p from by
      have h6 : PmAt w6 (Apart FB2 FD2 gx w6) p := by rw [hp]; exact hp6
      have h8 := h6.below hb8;have hpA : p.A = A' := (by rw [hp]);have hpB : p.B = xB := (by rw [hp]);have hw15 : w1.heap.size <= w5.heap.size := HT5.out.chg.size;refine ⟨h8.bl, h8.rc, fun a e => ⟨?_, fun e2 => ?_⟩, fun a e => ⟨?_, fun e2 => ?_⟩⟩
      · have h9 := h8.inA a e
        exact ⟨h9.1, h9.2.1, h9.2.2.1, Nat.lt_of_lt_of_le h9.2.2.2 hb8.size⟩
      · rw [hpA] at e
        have h9 := HA6.out a e;have h10 := HEB.out _ e2;have h11 := h9.1;omega
      · have h9 := h8.inB a e
        exact ⟨h9.1, h9.2.1, h9.2.2.1, Nat.lt_of_lt_of_le h9.2.2.2 hb8.size⟩
      · rw [hpB] at e
        have h9 := HBE.out a e;have h10 := HEB.out _ e2;omega)
     have HSL := zI (Sl.new w7 144 w7.heap.size p.cells p.cells.toArray rfl rfl);have HON := zI (show ∀ u ∈ p.cells, u.oneCell' = true from by have := Jw4 [p]; simpa using this);have HKK := zI (show k + 1 <= 1000000 from by omega);have HBS := zI (show w1.heap.size <= (w7.alloc (.cells p.cells.toArray 144)).heap.size from HT8.out.chg.size);have HL1 := zI (show p.cells.length = 1 * 7 from rfl);have HPP := zI hp;have i0 := hx7.at_ 0 (v := .int .u64 (id1 : Int)) rfl;have i1 := hx7.at_ 1 (v := .int .i64 (xt : Int)) rfl;have i2 := hx7.at_ 2 (v := .int .i64 (xsh : Int)) rfl;have i3 := hx7.at_ 3 (v := .int .i64 0) rfl;have i4 := hx7.at_ 4 (v := .int .i64 (sn : Int)) rfl;have i5 := hx7.at_ 5 (v := .slice (adr A') sn c') rfl;have i6 := hx7.at_ 6 (v := .slice (adr xB) len xd) rfl;rw [HCE.out] at HP8 HV8 HT8 HQ8 HSL HON HBS HL1;clear g0 g1 g2 g3 g4 g5 g6 hid1 hV6 hT6 hp6 hA6 hD6 hgq hw7 hx7 hb7 hol hp hb8;go_upto_region 9 with fail
     rw [<- HW7.out, <- HGQ.out];go_wp2_with (at_builtin; refine Jpm rfl _ _ rfl HP8.out.row rfl (some ⟨w7.heap.size, 0, none⟩) 1 1 _ rfl HL1.out HSL.out HON.out HKK.out HBS.out ?_; intro E' ec' w9 ho9 hg9 hb9)
     have HCG := zI (Chg.of_grown (F := fun b => (Value.slice E k ec).ownBlock = some b) hg9 (fun b e => e));have HP9 := zI (HP8.out.put HV8.out.book.ins HV8.out.disk.ins HV8.out.box.lt p HQ8.out hg9 (by rw [HCE.out]; exact ho9) hb9);have hmpl := HV.out.map.lt;have hb1z := HB1.out.size
     have HV9 := zI (HV8.out.far HCG.out (fun x e => by
      have h1 := HP8.out.out x e;have h2 := HEB.out x e;exact ⟨h1.1, h1.2.1, h1.2.2.1, by omega⟩))
     have hz9 := hg9.size;have HT9 := zI (show SvT w1 w9 FB FD FB2 FD2 gx from ⟨HT8.out.chg.trans HCG.out (fun x e => .inr (HEB.out x e).1), fun x hx => Jda (HT8.out.fb x hx) hz9, fun x hx => Jda (HT8.out.fd x hx) hz9⟩);have HG9 := zI (HGR.out.put (xt, xsh, xl) HDNL.out HD6.out);rw [<- HTK.out] at HG9;have HM9 := zI (show (ps ++ [p]).map Pm.e = (v.put D N (xt, xsh, xl)).es from by rw [List.map_append, HPE.out, HPP.out]; rfl);clear ho9 hg9 hb9 hmpl hb1z hz9;go_roundw
     case rel => exact ⟨k + 1, FB2, FD2, _, E', ec', ps ++ [p], v.put D N (xt, xsh, xl), by omega, by go_num, rfl, HV9.out, HT9.out, HG9.out, HM9.out, HP9.out⟩
     case measure => simp [intOf]; omega
  · have hke : k = n := by omega
    subst hke;have HTA := zI (show xs.take k = xs from List.take_of_length_le (by rw [HXL.out]; exact Nat.le_refl _));rw [HTA.out] at hV hG;have HVR := zI hV;have HGR := zI hG;have HTR := zI hT;have HPM := zI hP.pms;have hz1 := HB1.out.size
    have HSW := zI ((HST.out.below HB1.out).chg hT.chg (fun x hx hf => by
     have h1 := HFT.out x hx;exact Apart.not x (show Apart FB FD gx w1 x from ⟨h1.1, h1.2.1, h1.2.2.1, Nat.lt_of_lt_of_le h1.2.2.2 hz1⟩) hf))
    have HGW := zI ((HGL.out.below HB1.out).chg hT.chg (fun x hx => by
     rcases hx with rfl | hx | hx
     · exact HLOW.out.1
     · exact HLOW.out.2 x (.inl hx)
     · exact HLOW.out.2 x (.inr hx)))
    have hfi := HFI.out v hG;rw [<- hps] at hfi;have hrm := HRM.out;have hbd := HLY.out.bd;have hN := HLY.out.n
    have hnt : t.tabs.length = t.r.ts.length := by
     obtain ⟨gt, F2, _, hT2, _⟩ := HST.out.ex;exact hT2.len.symm
    have hHO := hG.hold HWV.out hps;have HHO := zI hHO;obtain ⟨q1, hq1⟩ : ∃ q1, q1 = q + 2 * needW xs := ⟨_, rfl⟩;have hq2 : q1 <= q + 8200 := (by omega);rw [<- hq1] at HVR;have HCT := zI (J4i E k ec ps wr HVR.out HLY.out HSW.out HPM.out (by omega) hfi.1 HGW.out hnt hfi.2 (by omega));have hgi : v.id = id + xs.length := hG.id;have HQ2 := zI hq2;have HPE := zI hps;have HFE := zI hfi.2;have hc30 : C <= 30 := hbd.2.1;have HN4 := zI hN;clear hV hG hT hP hps hz1 hfi hrm hbd hN hnt hHO hq1 hq2 hgi;go_wp2_with fail
    refine HCT.out.mono ?_;rintro e w5 ⟨FD3, nb, l, hl, hnb, rfl, hV5, hT5⟩;obtain ⟨L, hL⟩ : ∃ L, L = l.length := ⟨_, rfl⟩
    have hLb : L <= 7680 := by
     have h1 := HFE.out;rw [<- hl, <- hL] at h1;omega
    have hnb5 : nb <= 30 := by
     rw [hnb];unfold nbC;omega
    rw [<- hL];have HL := zI hL;have HLL := zI hl;have HNB := zI hnb;have HN5 := zI hnb5;have HLB := zI hLb;have HV5 := zI hV5;have HT5 := zI hT5;obtain ⟨g1, hg1⟩ : ∃ g1, g1 = gen + 1 := ⟨_, rfl⟩;have hgn := HGN.out;have hwr : IntKind.u64.wrap ((gen : Int) + 1) = (g1 : Int) := by rw [IntWalk.u64_in _ (by omega)]; omega
    have HG1 := zI hg1;have hdr := (Below.refl w5.heap.size w5).drew;have HVD := zI (HV5.out.below hdr);have HSU := zI (DsAt.super g1 L HVD.out.disk (by omega) (by omega) HN4.out.1 HN4.out.2 (by omega) (by have := HQ2.out; omega));have x7 := HV5.out.box.at_ 7 (v := .pointer (some ⟨gd, 0, none⟩)) rfl;have x8 := HV5.out.box.at_ 8 (v := .int .u64 (gen : Int)) rfl;have x0 := HV5.out.box.at_ 0 (v := .int .i64 (N : Int)) rfl;have y7 := HVD.out.box.at_ 7 (v := .pointer (some ⟨gd, 0, none⟩)) rfl;have y8 := HVD.out.box.at_ 8 (v := .int .u64 (gen : Int)) rfl;have y0 := HVD.out.box.at_ 0 (v := .int .i64 (N : Int)) rfl;clear hl hnb hV5 hT5 hL hnb5 hdr hgn;clear hg1;go_upto_region 16 with fail
    go_cut [14] (fun s14 wx => s14 = .int .i64 0 /\ DsW w5.drew FD3 wx gd N (q1 + 2 * nb + 2) (setS (putN v.f (Jcb B (gen + 1)) (chC l) nb) ((g1 % 2 : Nat) : Int) (strOf (suB g1 N L))))
    case first =>
     go_region_with (first
      | (go_at_call 85
         refine HSU.out.mono ?_;rintro e w6 ⟨rfl, hd6⟩))
     all_goals (go_split_ands; go_wp2_with fail; go_meet; exact ⟨rfl, hd6⟩)
    case rest =>
     obtain ⟨rfl, hd6⟩ := hcut;have hvd := HVD.out.disked hd6;have HT6 := zI ((((SvT.of_below FB FD gx HB1.out).trans HTR.out).trans HT5.out).trans ((SvT.of_below FB' FD3 gx (Below.refl w5.heap.size w5).drew).trans hvd.2));have HTP := zI (HT5.out.trans ((SvT.of_below FB' FD3 gx (Below.refl w5.heap.size w5).drew).trans hvd.2));have HV6 := zI hvd.1;clear hvd hd6 x7 x8 x0 y7 y8 y0;obtain ⟨FD6, hFD6⟩ : ∃ FD6, FD6 = grow FD3 w5.drew wc := ⟨_, rfl⟩;rw [<- hFD6] at HV6 HT6 HTP;clear hFD6;have x8 := HV6.out.box.at_ 8 (v := .int .u64 (gen : Int)) rfl;have f8 := HV6.out.box.free 8;obtain ⟨w7, hw7⟩ : ∃ w7, w7 = wc.setCell ⟨gx, 8, none⟩ (.int .u64 (g1 : Int)) := ⟨_, rfl⟩;have hv7 := HV6.out.boxed 8 (.int .u64 (g1 : Int)) (gen' := g1) (id' := v.id) (mp' := mp) (bk' := bk) (lg' := lg) (bad' := bad) rfl rfl rfl;rw [<- hw7] at hv7;have HV7 := zI hv7.1;have HT7 := zI (HT6.out.trans hv7.2);have HPM7 := zI (((HPM.out.sub (fun x hx => hx)).chg (HTP.out.trans hv7.2).chg (fun x hx hf => Apart.not x hx hf)).sub (fun x hx => (HTP.out.trans hv7.2).apart hx));have HHD := zI (Jxj (c := ec) w7 HV7.out.box HLY.out HPM7.out (fun h => h.2.2.1 rfl) HHO.out (by omega));have HW7 := zI hw7;clear hv7 hw7;go_upto_region 20 with fail
     rw [<- HW7.out];clear x8 f8;go_wp2_with fail
     refine HHD.out.mono ?_;rintro e w8 ⟨rfl, mp8, bk8, FB8, hH8, hI8⟩;have hc8 := hH8.chg;have hlo := hH8.low
     have HV8 := zI (show SvS w8 FB8 FD6 gx N C B D R gd g1 v.id mp8 bk8 (q1 + 2 * nb + 2) k lg bad (mapOf ps) (usOf ps) none (Jcy ps) none (setS (putN v.f (Jcb B (gen + 1)) (chC l) nb) ((g1 % 2 : Nat) : Int) (strOf (suB g1 N L))) from
      ⟨hH8.box, hH8.map, hH8.book, HV7.out.disk.chg hc8 (fun x hx e => HV7.out.ngx.2 (by rw [<- e]; exact hx)), fun x hx hd => by have h1 := hlo.2 x hx; have h2 := HV7.out.disk.ins x hd; omega,
       ⟨fun h => by have h1 := hlo.2 gx h; have h2 := HV7.out.box.lt; omega, HV7.out.ngx.2⟩, ⟨hH8.ne, fun h => by have h1 := hlo.1; have h2 := HV7.out.disk.ins _ h; omega⟩⟩)
     have HT8 := zI (HT7.out.trans (show SvT w7 w8 FB' FD6 FB8 FD6 gx from ⟨hc8.sub (fun x e => .inl e), fun x hx => .inr ⟨hlo.2 x hx, hI8 x hx⟩, fun x h => .inl h⟩));have HLM := zI (show w.heap.size <= mp8 from Nat.le_trans HT7.out.chg.size hlo.1);clear hH8 hI8 hc8 hlo;have hdr := (Below.refl w8.heap.size w8).drew;have HVD8 := zI (HV8.out.below hdr);have x7 := HV8.out.box.at_ 7 (v := .pointer (some ⟨gd, 0, none⟩)) rfl;have x1 := HV8.out.box.at_ 1 (v := .int .i64 2) rfl;have x8 := HV8.out.box.at_ 8 (v := .int .u64 (g1 : Int)) rfl;have y7 := HVD8.out.box.at_ 7 (v := .pointer (some ⟨gd, 0, none⟩)) rfl;have y1 := HVD8.out.box.at_ 1 (v := .int .i64 2) rfl;have y8 := HVD8.out.box.at_ 8 (v := .int .u64 (g1 : Int)) rfl;have HWN8 : Hid (Calls Tryz.prog 86 #[.pointer (some ⟨gd, 0, none⟩), .int .i64 2, .int .i64 16, .int .u64 (g1 : Int)] w8.drew fun e w' => ∃ g, e = .returned (.tuple #[.pointer (some ⟨g, 0, none⟩), .int .i64 0]) /\ Jqw w' g ⟨gd, 0, none⟩ 2 16 g1 /\ w8.drew.heap.size <= g /\ Below w8.drew.heap.size w8.drew w') := zI (J4j ⟨gd, 0, none⟩ 2 16 g1 w8.drew (by omega) (by have := HG1.out; omega));clear hdr;go_upto_region 21 with fail
     go_cut [13] (fun s13 wx => ∃ gl w9, s13 = .int .i64 0 /\ wx = w9.setCell ⟨gx, 12, none⟩ (.pointer (some ⟨gl, 0, none⟩)) /\ Jqw w9 gl ⟨gd, 0, none⟩ 2 16 g1 /\ w8.heap.size <= gl /\ Below w8.heap.size w8 w9)
     case first =>
      go_region_with (first
       | (go_at_call 86
          refine HWN8.out.mono ?_;rintro e w9 ⟨gl, rfl, hl9, hg9, hb9⟩;have hx9 := HVD8.out.box.below hb9;have z12 := hx9.at_ 12 (v := .pointer lg) rfl;have zf12 := hx9.free 12))
      all_goals (go_split_ands; go_wp2_with fail; go_meet; exact ⟨gl, w9, rfl, rfl, hl9, by simpa using hg9, (Below.refl w8.heap.size w8).drew.trans hb9⟩)
     case rest =>
      obtain ⟨gl, w9, rfl, hwc, hl9, hg9, hb9⟩ := hcut;have hv9 := (HV8.out.below hb9).boxed 12 (.pointer (some ⟨gl, 0, none⟩)) (gen' := g1) (id' := v.id) (mp' := mp8) (bk' := bk8) (lg' := some ⟨gl, 0, none⟩) (bad' := bad) rfl rfl rfl;rw [<- hwc] at hv9;have HT9 := zI ((HT8.out.trans (SvT.of_below FB8 FD6 gx hb9)).trans hv9.2);have hgl : gl ≠ gx := by have := HV8.out.box.lt; omega
      have HLG : Hid (Jqw wc gl ⟨gd, 0, none⟩ 2 16 (gen + 1)) := zI (by rw [hwc, <- HG1.out]; exact Bx.other hl9 (p := ⟨gx, 12, none⟩) hgl _);have e9 : catB (gen + 1) v.id t.r.now (Py.printL t.r.nm.toList t.r.ts) t.r.all v.es = l := by rw [<- HPE.out]; exact HLL.out.symm
      have HVF : Hid (SvS wc FB8 FD6 gx N C B D R gd (gen + 1) v.id mp8 bk8 (q1 + 2 * nb + 2) ps.length (some ⟨gl, 0, none⟩) bad (mapOf ps) (usOf ps) none (Jcy ps) none (setS (putN v.f (Jcb B (gen + 1)) (chC (catB (gen + 1) v.id t.r.now (Py.printL t.r.nm.toList t.r.ts) t.r.all v.es)) (nbC (catB (gen + 1) v.id t.r.now (Py.printL t.r.nm.toList t.r.ts) t.r.all v.es))) (((gen + 1) % 2 : Nat) : Int) (strOf (suB (gen + 1) N (catB (gen + 1) v.id t.r.now (Py.printL t.r.nm.toList t.r.ts) t.r.all v.es).length)))) := by
       rw [e9, <- HNB.out, <- HL.out, HPM.out.len, <- HG1.out];have := hv9.1;rw [<- HG1.out] at this;exact zI this
      have HLGL := zI (show w.heap.size <= gl from Nat.le_trans HT8.out.chg.size hg9);clear hv9 hwc hl9 hg9 hb9 hgl e9;clear x7 x1 x8 y7 y1 y8;go_wp2_with fail
      go_ret;exact ⟨FB8, FD6, mp8, bk8, gl, ps, v, q1 + 2 * nb + 2, rfl, HGR.out, HPE.out, by have h1 := HN5.out; have h2 := HQ2.out; omega, HVF.out, HLG.out, HT9.out, HLM.out, HLGL.out⟩
end Go.Proofs.YtalkkhafcfhglaaGreatDoor
