/-
  Several texts in one: Brc, Web, StaD, StoM, Alv, Aliv, StoZ.
-/
import Derived.Test.YtalkkhafcfhglaaGreatDoorQ43
set_option maxRecDepth 100000
set_option maxHeartbeats 4000000
namespace Go.Proofs.YtalkkhafcfhglaaGreatDoor
open Go.RowKit
theorem Jyr (t : Tv) (ps : List Pm) : Jf5 t ps = (ps.map Pm.w).foldl ldX t := by
 unfold Jf5;rw [List.foldl_map];rfl
theorem Jsz : ∀ es : List En, (es.flatMap enB).length = 12 * es.length + 2 * (es.flatMap En.bl).length
 | [] => rfl
 | e :: es => by
   rw [List.flatMap_cons, List.flatMap_cons, List.length_append, List.length_append, J4f, Jsz es, List.length_cons];omega
theorem J1r (g i : Nat) (now : Int) (txt : List UInt8) (fl : List Int) (es : List En) : (catB g i now txt fl es).length = 46 + txt.length + 8 * fl.length + 12 * es.length + 2 * (es.flatMap En.bl).length := by
 unfold catB catH txB;simp only [List.length_append, Jaz, Jsz, List.length_nil];rw [Jem (fun v : Int => le 8 (u64 v)) 8 (fun a => Jaz 8 _) fl];omega
section
variable {t : Tv} {N C B D R gen : Nat} {v0 v : SvV}
theorem SvG.wide {xs : List Wv} (h : SvG D N v0 xs v) : (v.es.flatMap En.bl).length = needW xs := by
 rw [List.length_flatMap];unfold needW
 congr 1
 apply List.ext_getElem
 · rw [List.length_map, List.length_map, h.es]
 · intro j h1 h2
   rw [List.getElem_map, List.getElem_map];exact (h.at_ j (by simpa using h1) (by simpa using h2)).2.2.1
theorem SvG.fits (hL : Jex N C B D R) (hg : t.Good) (hn : t.need <= (R : Int)) (hv : SvG D N v0 (Jah t t.tabs.length) v) (hid : v0.id < 1000000) (hgen : gen < 1000000) :
  Jhk (gen + 1) v.id t.r.now t.r.nm t.r.ts t.r.all v.es /\ (catB (gen + 1) v.id t.r.now (Py.printL t.r.nm.toList t.r.ts) t.r.all v.es).length <= C * 256 := by
 have hw := hg.wv;have hnW : needW (Jah t t.tabs.length) <= R := by have := hg.needW; omega
 obtain ⟨hvn, h1, h5, hf, _⟩ := Py.check_fine hg.ck;have hpl := Py.print_len hvn hf h5;have hbd := hL.bd;have hln := hL.n;have hlc := hL.c;have hlen := J1r (gen + 1) v.id t.r.now (Py.printL t.r.nm.toList t.r.ts) t.r.all v.es;rw [hv.wide, hv.es, Rch.all_len] at hlen;have hx := hw.n
 have hC : (catB (gen + 1) v.id t.r.now (Py.printL t.r.nm.toList t.r.ts) t.r.all v.es).length <= C * 256 := by
  rw [hlen]; omega
 have key : ∀ e ∈ v.es, ∃ x ∈ Jah t t.tabs.length, e.tier = x.1 /\ e.shard = x.2.1 /\ e.bl.length = sgN x.2.2.length := by
  intro e he;obtain ⟨j, hj, rfl⟩ := List.getElem_of_mem he;have hj2 : j < (Jah t t.tabs.length).length := by rw [<- hv.es]; exact hj
  obtain ⟨a1, a2, a3, _⟩ := hv.at_ j hj hj2;exact ⟨_, List.getElem_mem hj2, a1, a2, a3⟩
 have hvid := hv.id;refine ⟨⟨⟨by omega, by omega⟩, by omega, hg.now, hg.nm, hg.ck, Rch.all_len _, ?_, by rw [hv.es]; omega, ?_, ?_, hv.nodup, by omega⟩, hC⟩
 · intro f hf
   unfold Rch.all at hf;obtain ⟨i, hi, rfl⟩ := List.mem_map.1 hf;have := hg.flo i (List.mem_range.1 hi);exact ⟨this.1, this.2.1⟩
 · intro e he
   obtain ⟨x, hx, e1, e2, e3⟩ := key e he;have h1 := hw.fit x hx;refine ⟨hv.ids e he, by omega, by omega, by rw [e3]; unfold sgN; omega, fun z hz => ?_⟩;have := hv.bl e he z hz;omega
 · have e : (v.es.map fun e => plit (e.tier : Int) (e.shard : Int)) = (Jah t t.tabs.length).map fun x => plit (x.1 : Int) (x.2.1 : Int) := by
    apply List.ext_getElem
    · rw [List.length_map, List.length_map, hv.es]
    · intro j h1 h2
      rw [List.getElem_map, List.getElem_map];obtain ⟨a1, a2, _, _⟩ := hv.at_ j (by simpa using h1) (by simpa using h2);rw [a1, a2]
   rw [e];exact hw.place
theorem Jer (t : Tv) (i : Nat) : (t.withFs t.r.all).r.from_ i = t.r.from_ i := by
 unfold Tv.withFs Rch.from_;by_cases hi : i < t.r.ts.length
 · simp only [List.getElem?_eq_getElem hi]
   have e : t.r.all[i]? = some (t.r.from_ i) := by
    unfold Rch.all;rw [List.getElem?_map, List.getElem?_range hi]; rfl
   rw [e];show max (Jgh t.r.now (t.r.ts[i]).kp (t.r.nextEv i)) (t.r.from_ i) = _;unfold Rch.from_;simp only [List.getElem?_eq_getElem hi];cases t.r.fs[i]? with
   | none => simp
   | some f => simp only []; omega
 · simp only [List.getElem?_eq_none (Nat.le_of_not_lt hi)]
theorem Juo (t : Tv) : (t.withFs t.r.all).r.all = t.r.all := by
 show (List.range t.r.ts.length).map _ = (List.range t.r.ts.length).map _;exact List.map_congr_left (fun i _ => Jer t i)
theorem Jka (t : Tv) (fl : List Int) : ∀ k, Jbt (t.withFs fl) k = Jbt t k
 | 0 => rfl
 | k + 1 => by unfold Jbt; rw [Jka t fl k]; rfl
theorem Tv.Good.withFs (h : t.Good) : (t.withFs t.r.all).Good :=
 ⟨h.ck, h.nm, h.len, h.now, fun i hi => by rw [Jer]; exact h.flo i hi, h.ord, fun i hi r hr => by rw [Jer]; exact h.fine i hi r hr, h.few⟩
theorem Jfz (f : Int -> Option ByteArray) (a : Nat) (g : Nat -> ByteArray) (z : Int) : ∀ k, (z < (a : Int) \/ ((a + k : Nat) : Int) <= z) -> putN f a g k z = f z
 | 0, _ => rfl
 | k + 1, h => by
   show setS (putN f a g k) _ _ z = _;unfold setS;rw [if_neg (by omega)];exact Jfz f a g z k (by omega)
theorem Js0 (f : Int -> Option ByteArray) (a : Nat) (g : Nat -> ByteArray) : ∀ k j, j < k -> putN f a g k ((a + j : Nat) : Int) = some (g j)
 | 0, _, h => by omega
 | k + 1, j, h => by
   show setS (putN f a g k) _ _ _ = _;unfold setS;by_cases e : j = k
   · subst e; rw [if_pos rfl]
   · rw [if_neg (by omega)]; exact Js0 f a g k j (by omega)
theorem J5h {l : List UInt8} {C : Nat} (h : l.length <= C * 256) : nbC l <= C := by unfold nbC; omega
theorem J5i (hL : Jex N C B D R) (hg : t.Good) (hn : t.need <= (R : Int)) (hv : SvG D N v0 (Jah t t.tabs.length) v) (hid : v0.id < 1000000) (hgen : gen < 1000000)
  (hoth : ∃ o, Jkj (Ja5 v0.f ((gen % 2 : Nat) : Int)) o /\ ∀ x, o = some x -> x.1 <= gen) (hlog : Ja5 v0.f 2 = strOf (zeros 256)) :
  J2e (savF B N t (gen + 1) v) N C B D R (gen + 1) v.id t.r.now t.r.nm t.r.ts t.r.all v.es ((Jah t t.tabs.length).map fun x => x.2.2) (savB t (gen + 1) v) (t.withFs t.r.all) := by
 obtain ⟨hfit, hlen⟩ := hv.fits hL hg hn hid hgen;have hw := hg.wv;have hbd := hL.bd;have hln := hL.n;have hnb := J5h hlen;have hca : 18 <= Jcb B (gen + 1) /\ Jcb B (gen + 1) + C <= D := by unfold Jcb; split <;> omega
 have hL40 := hfit.hlen;have hb : savB t (gen + 1) v = catB (gen + 1) v.id t.r.now (Py.printL t.r.nm.toList t.r.ts) t.r.all v.es := rfl
 -- far from the catalogue and from the superblock
 have high : ∀ z : Int, (D : Int) <= z -> savF B N t (gen + 1) v z = v.f z := by
  intro z hz;show setS (putN _ _ _ _) _ _ z = _;unfold setS;rw [if_neg (by omega)];exact Jfz _ _ _ _ _ (.inr (by rw [hb]; omega))
 have low : ∀ z : Int, 0 <= z -> z < 18 -> z ≠ (((gen + 1) % 2 : Nat) : Int) -> Ja5 (savF B N t (gen + 1) v) z = Ja5 v0.f z := by
  intro z h0 hz hne;show (setS (putN _ _ _ _) _ _ z).getD _ = _;unfold setS;rw [if_neg hne, Jfz _ _ _ _ _ (.inl (by omega)), hv.low z (by omega)];rfl
 refine ⟨rfl, hfit, hlen, fun j hj => ?_, ?_, ?_, ?_, ⟨by rw [Rch.all_len]; exact Nat.le_refl _, fun i h h' => ?_⟩, fun ps he hl => ?_, hg.withFs.rare, ?_, ?_⟩
 · show (setS (putN _ _ _ _) _ _ _).getD _ = _
   unfold setS;rw [if_neg (by omega), Js0 _ _ _ _ _ hj];rfl
 · have hme : Jkj (Ja5 (savF B N t (gen + 1) v) (((gen + 1) % 2 : Nat) : Int)) (some (gen + 1, N, (savB t (gen + 1) v).length)) := by
    refine ⟨?_, by omega, by omega, hln.1, hln.2, hL40⟩;show (setS (putN _ _ _ _) _ _ _).getD _ = _;unfold setS;rw [if_pos rfl];rfl
   obtain ⟨o, ho, hox⟩ := hoth;have hot : Jkj (Ja5 (savF B N t (gen + 1) v) ((gen % 2 : Nat) : Int)) o := by rw [low _ (by omega) (by omega) (by omega)]; exact ho
   by_cases hp : gen % 2 = 0
   · rw [show (gen + 1) % 2 = 1 from by omega] at hme
     rw [hp] at hot;refine ⟨o, _, hot, hme, ?_⟩;unfold bsts bst;cases o with
     | none => simp
     | some x =>
       have := hox x rfl;simp only [];by_cases h0 : (0 : Nat) < x.1
       · rw [if_pos h0, if_pos (by omega)]
       · rw [if_neg h0, if_pos (by omega)]
   · rw [show (gen + 1) % 2 = 0 from by omega] at hme
     rw [show gen % 2 = 1 from by omega] at hot;refine ⟨_, o, hme, hot, ?_⟩;have e1 : bst (0, 0, 0) (some (gen + 1, N, (savB t (gen + 1) v).length)) = (gen + 1, N, (savB t (gen + 1) v).length) := (by simp [bst]);show bst (bst (0, 0, 0) (some (gen + 1, N, (savB t (gen + 1) v).length))) o = _;rw [e1];cases o with
     | none => rfl
     | some x =>
       have := hox x rfl;have h2 : ¬ gen + 1 < x.1 := (by omega);simp [bst, h2]
 · rw [List.length_map, hv.es]
 · intro j h1 h2
   have hj2 : j < (Jah t t.tabs.length).length := by simpa using h2
   obtain ⟨a1, a2, a3, a4⟩ := hv.at_ j h1 hj2;have hx := hw.fit _ (List.getElem_mem hj2);rw [List.getElem_map];have hbl := hv.bl _ (List.getElem_mem h1);refine ⟨fun q hq => ?_, a3, ⟨hx.2.2.1, hx.2.2.2.1⟩, hx.2.2.2.2.1, hx.2.2.2.2.2, hbl⟩;have hz := (hbl _ (List.getElem_mem hq)).1;have h4 := a4 q hq;show some ((savF B N t (gen + 1) v _).getD _) = _;rw [high _ hz];have hq2 : q < (sgL v.es[j].id v.es[j].tier v.es[j].shard (Jah t t.tabs.length)[j].2.2).length := by rw [Jep, <- a3]; exact hq
   rw [h4, List.getElem?_eq_getElem hq2];rfl
 · have K : i < t.r.ts.length := h'
   have h2 := hg.flo i K
   have e : t.r.all[i]'h = t.r.from_ i := by
    have e0 : t.r.all[i]? = some (t.r.from_ i) := by
     unfold Rch.all;rw [List.getElem?_map, List.getElem?_range K]; rfl
    rw [List.getElem?_eq_getElem h] at e0;exact Option.some.inj e0
   rw [e, <- Rch.ev_at K];exact ⟨h2.1, h2.2.2⟩
 · have hpl : ps.length = (Jah t t.tabs.length).length := by
    have := congrArg List.length hl
    simpa using this
   have hpe : ps.length = v.es.length := by rw [<- he, List.length_map]
   have hpw : ps.map Pm.w = Jah t t.tabs.length := by
    apply List.ext_getElem
    · rw [List.length_map, hpl]
    · intro j h1 h2
      have hj : j < ps.length := (by simpa using h1);have hj2 : j < v.es.length := (by omega);obtain ⟨a1, a2, _, _⟩ := hv.at_ j hj2 h2
      have e1 : ps[j].e = v.es[j] := by
       have : (ps.map Pm.e)[j]'(by rw [List.length_map]; exact hj) = ps[j].e := List.getElem_map _;rw [<- this]; congr 1
      have e2 : ps[j].l = ((Jah t t.tabs.length)[j]).2.2 := by
       have h3 : (ps.map Pm.l)[j]'(by rw [List.length_map]; exact hj) = ps[j].l := List.getElem_map _;have h4 : ((Jah t t.tabs.length).map fun x => x.2.2)[j]'(by rw [List.length_map]; exact h2) = ((Jah t t.tabs.length)[j]).2.2 := List.getElem_map _;rw [<- h3, <- h4]; congr 1
      rw [List.getElem_map];unfold Pm.w;rw [e1, e2, a1, a2]
   refine ⟨fun j hj => ?_, ?_, ?_⟩
   · have hxj : ps[j].w ∈ Jah t t.tabs.length := by rw [<- hpw]; exact List.mem_map_of_mem (List.getElem_mem hj)
     have hx := hw.fit _ hxj;obtain ⟨i, s, hi, hs, exx, hne⟩ := Jfy hxj;have e1 : ps[j].e.tier = i := congrArg (fun x : Wv => x.1) exx;have e2 : ps[j].e.shard = s := congrArg (fun x : Wv => x.2.1) exx;have e3 : ps[j].l = Ja0 (t.r.sh i).toNat (t.tab i) s := congrArg (fun x : Wv => x.2.2) exx;have hsh := hg.sh hi;have hev := hg.ev hi;obtain ⟨K, _, _, hK⟩ := hg.ti hi;have hr : (Jf5 ⟨⟨t.r.now, t.r.nm, t.r.ts, t.r.all⟩, List.replicate t.r.ts.length []⟩ (ps.take j)).r = (t.withFs t.r.all).r := J4l _ _;refine ⟨by rw [e1]; exact K, ⟨(t.r.sh i).toNat, fun K' => ?_, by omega, by omega, by omega, fun r hr => ?_⟩, hx.2.2.2.1, fun r hr' => ?_, ?_, ?_⟩
     · have : t.r.ts[ps[j].e.tier]'K' = t.r.ts[i]'K := by congr 1
       rw [this, <- hK]; omega
     · rw [e3] at hr
       rw [e2]; exact (Jhj hr).2
     · rw [hr, e1, Jer]
       rw [e3] at hr';have := hg.fine i hi r (Jhj hr').1;exact ⟨this.2.2, this.2.1⟩
     · rw [hr, e1]
       show -9223372036854775808 <= t.r.ev i /\ t.r.ev i <= _;omega
     · rw [Jyr, e1]
       have hm := Jsx i ((ps.take j).map Pm.w) ⟨⟨t.r.now, t.r.nm, t.r.ts, t.r.all⟩, List.replicate t.r.ts.length []⟩
       have h0 : (Tv.tab ⟨⟨t.r.now, t.r.nm, t.r.ts, t.r.all⟩, List.replicate t.r.ts.length []⟩ i).length = 0 := by
        unfold Tv.tab;simp only [List.getD_eq_getElem?_getD, List.getElem?_replicate];split <;> rfl
       have hsum : ∀ xs : List Wv, (∀ x ∈ xs, x.2.2.length <= 10000) -> (xs.map fun x => x.2.2.length).sum <= 10000 * xs.length := by
        intro xs
        induction xs with
        | nil => intro _; simp
        | cons a r ih =>
          intro h;have h1 := h a (by simp);have h2 := ih (fun x hx => h x (by simp [hx]));simp only [List.map_cons, List.sum_cons, List.length_cons];omega
       have h3 := hsum ((ps.take j).map Pm.w) (fun x hx => by
        rw [List.map_take, hpw] at hx;exact (hw.fit x (List.mem_of_mem_take hx)).2.2.2.1)
       have h4 : ((ps.take j).map Pm.w).length <= 40 := by
        rw [List.length_map, List.length_take];have := hw.n;omega
       have h5 : ps[j].l.length <= 10000 := hx.2.2.2.1;omega
   · rw [Jyr, hpw]
     exact (Juj hg t.r.all).symm
   · have mem : ∀ p ∈ ps, p.e ∈ v.es := fun p hp => by rw [<- he]; exact List.mem_map_of_mem hp
     have fit : ∀ p ∈ ps, p.w ∈ Jah t t.tabs.length := fun p hp => by rw [<- hpw]; exact List.mem_map_of_mem hp
     refine ⟨fun p hp => (hw.fit _ (fit p hp)).1, fun p hp => by have := (hw.fit _ (fit p hp)).2.1; exact Nat.le_of_lt_succ this, fun p hp e => ?_, fun p hp => hv.bl _ (mem p hp), ?_⟩
     · have := (hfit.hok _ (mem p hp)).len.1
       rw [e] at this;simp at this
     · have : (ps.flatMap fun p => p.e.bl) = (ps.map Pm.e).flatMap En.bl := by rw [List.flatMap_map]
       rw [this, he];exact hv.nodup
 · show Jbt _ _ <= _
   rw [show (t.withFs t.r.all).tabs.length = t.tabs.length from rfl, Jka];exact hn
 · rw [low 2 (by omega) (by omega) (by omega)]
   exact hlog
end
def webT : Tv := Tv.new ⟨Py.webNm.toArray⟩ Py.webTs 0
theorem Jkb (i : Nat) : webT.r.from_ i = 0 := by
 match i with
 | 0 => decide
 | 1 => decide
 | k + 2 => rfl
theorem Jf0 (i : Nat) : webT.tab i = [] := by
 match i with
 | 0 => rfl
 | 1 => rfl
 | k + 2 => rfl
theorem Jup : webT.r.nm.size <= maxLen := by show (3 : Nat) <= maxLen; unfold maxLen; omega
theorem Jby : webT.Good := by
 refine ⟨by show Py.checkR (⟨Py.webNm.toArray⟩ : ByteArray).toList Py.webTs = (0, 0); rw [Py.toList_mk]; exact Py.web_check, Jup, rfl, ⟨by decide, by decide⟩, fun i hi => ?_, fun i _ => ?_, fun i _ r hr => ?_, fun i _ => ?_⟩
 · rw [Jkb]
   refine ⟨by omega, by omega, ?_⟩;have hi : i < 2 := hi
   match i with
   | 0 => decide
   | 1 => decide
 · rw [Jf0]; exact List.Pairwise.nil
 · rw [Jf0] at hr; cases hr
 · rw [Jf0]; exact Nat.zero_le _
def recZ (nm : ByteArray) (v : Int) : Rc := ⟨nm, 0, oneG v⟩
theorem J4n (v : Int) : ofL [v] = oneG v := by
 show Jea Ag.zero (oneG v) = _;unfold Jea;rw [if_pos (show Ag.zero.c = 0 from rfl)]
theorem Jlq (v : Int) : Jb3 (oneG v) = true := by
 unfold Jb3 oneG;exact decide_eq_true ⟨by show (1 : Int) <= 1; omega, by show (1 : Int) <= 4611686018427387904; omega, Int.le_refl _⟩
def webV (nm : ByteArray) (v : Int) : Tv := ⟨webT.r, [[recZ nm v], [recZ nm v]]⟩
theorem Jnb (nm : ByteArray) (v : Int) (i : Nat) (hi : i < 2) : (webV nm v).tab i = [recZ nm v] := by
 match i with
 | 0 => rfl
 | 1 => rfl
theorem Jh3 {nm : ByteArray} (h : Jak nm.toList = true) (v : Int) (i : Nat) (hi : i < 2) : Jas (webT.r.ev i) (recZ nm v) = true := by
 unfold Jas;rw [show (recZ nm v).nm = nm from rfl, show (recZ nm v).ag = oneG v from rfl, show (recZ nm v).st = 0 from rfl, h, Jlq]
 match i with
 | 0 => decide
 | 1 => decide
theorem Js1 (nm : ByteArray) (v : Int) (i : Nat) (hi : i < 2) : webT.r.rec_ i ⟨nm, 0, v⟩ = recZ nm v := by
 unfold Rch.rec_ recZ;rw [show (⟨nm, 0, v⟩ : Smp).vl = v from rfl, J4n]
 match i with
 | 0 => rfl
 | 1 => rfl
theorem Js2 {ev : Int} {r : Rc} (h : Jas ev r = true) : addL ev [] [r] = [r] := by
 show addR ev [] r = [r];rw [Jso h (fun a ha => by cases ha)];rfl
theorem J1s {nm : ByteArray} (h : Jak nm.toList = true) (v : Int) : webT.put [⟨nm, 0, v⟩] = webV nm v := by
 have h0 : webT.r.has ((0 : Nat) : Int) 0 = true := by decide
 have h1 : webT.r.has ((1 : Nat) : Int) 0 = true := by decide
 have e0 : webT.putTo ⟨nm, 0, v⟩ 1 = ⟨webT.r, [[recZ nm v], []]⟩ := by
  show (if webT.r.has ((0 : Nat) : Int) 0 = true then webT.setTab 0 (addL (webT.r.ev 0) (webT.tab 0) [webT.r.rec_ 0 ⟨nm, 0, v⟩]) else webT) = _;rw [if_pos h0, Jf0, Js1 nm v 0 (by omega), Js2 (Jh3 h v 0 (by omega))];rfl
 show (if webT.r.has ((1 : Nat) : Int) 0 = true then (webT.putTo ⟨nm, 0, v⟩ 1).setTab 1 (addL (webT.r.ev 1) ((webT.putTo ⟨nm, 0, v⟩ 1).tab 1) [webT.r.rec_ 1 ⟨nm, 0, v⟩]) else webT.putTo ⟨nm, 0, v⟩ 1) = _;rw [if_pos h1, e0, Js1 nm v 1 (by omega), show Tv.tab ⟨webT.r, [[recZ nm v], []]⟩ 1 = [] from rfl, Js2 (Jh3 h v 1 (by omega))];rfl
theorem Jys {nm : ByteArray} (h : Jak nm.toList = true) {v : Int} (hv : -9223372036854775808 <= v /\ v <= 9223372036854775807) : (recZ nm v).Fine := by
 have hl : nm.size <= 15 := by
  unfold Jak at h;simp only [Bool.and_eq_true, decide_eq_true_eq, Jab] at h;exact h.1.2
 exact ⟨⟨by show nm.size <= maxLen; unfold maxLen; omega, Jbz (by show -9223372036854775808 <= (0 : Int) /\ (0 : Int) <= _; omega), Ag.Fit.one hv⟩, h, by show (0 : Int) <= 0 /\ (0 : Int) <= _; omega, Jlq v⟩
theorem Jyt {nm : ByteArray} (h : Jak nm.toList = true) {v : Int} (hv : -9223372036854775808 <= v /\ v <= 9223372036854775807) : (webV nm v).Good := by
 have g := Jby;refine ⟨g.ck, g.nm, rfl, g.now, g.flo, fun i hi => ?_, fun i hi r hr => ?_, fun i hi => ?_⟩
 · rw [Jnb nm v i hi]; exact List.pairwise_singleton _ _
 · rw [Jnb nm v i hi] at hr
   rw [List.mem_singleton.1 hr];refine ⟨Jys h hv, Jh3 h v i hi, ?_⟩;show webT.r.from_ i <= 0;rw [Jkb]; exact Int.le_refl _
 · rw [Jnb nm v i hi]; show (1 : Nat) <= _; omega
theorem Jhm : webT.need = 0 := rfl
theorem Jhn (nm : ByteArray) (v : Int) : (webV nm v).need = 2 := rfl
theorem Jyu {F G : Nat -> Prop} {g h room : Nat} {t : Tv} {fs : List Int} (w : World) (hA : StAt w F g room t) (hB : StAt w G h room (t.withFs fs)) (hfs : (t.withFs fs).r.all = t.r.all) (hf : t.Fine) :
  Calls Tryz.prog 23 #[.pointer (some ⟨g, 0, none⟩), .pointer (some ⟨h, 0, none⟩)] w fun e w' => e = .returned (.bool true) /\ Below w.heap.size w w' := by
 obtain ⟨ga, FA, hX, hT, _, _⟩ := hA.ex;obtain ⟨gb, FB, hX', hT', _, _⟩ := hB.ex;have HTS := zI (fun W (hW : Below w.heap.size w W) => (J1h W (hT.below hW) (hT'.below hW) hfs hf).mono (fun e w' (hh : e = .returned (.bool true) /\ Below W.heap.size W w') => (show e = .returned (.bool true) /\ Below w.heap.size w w' from ⟨hh.1, hW.trans (hh.2.mono hW.size)⟩)));have HX := zI hX;have HX' := zI hX';have HXD := zI hX.drew;have HXD' := zI hX'.drew;clear hA hB hX hX' hT hT' hf hfs;go_enter Tryz.func23, Tryz.ntmps23;go_upto_region 3 with fail
 go_region_held3 (fun w' => w'.cell? ⟨g, 0, none⟩ = some (.int .i64 (room : Int)) /\ w'.cell? ⟨g, 1, none⟩ = some (.pointer (some ⟨ga, 0, none⟩)) /\ w'.cell? ⟨g, 2, none⟩ = some (.pointer none) /\ w'.cell? ⟨h, 0, none⟩ = some (.int .i64 (room : Int)) /\ w'.cell? ⟨h, 1, none⟩ = some (.pointer (some ⟨gb, 0, none⟩)) /\ w'.cell? ⟨h, 2, none⟩ = some (.pointer none) /\ Below w.heap.size w w')
  (first
    | exact ⟨HXD.out.at_ 0 rfl, HXD.out.at_ 1 rfl, HXD.out.at_ 2 rfl, HXD'.out.at_ 0 rfl, HXD'.out.at_ 1 rfl, HXD'.out.at_ 2 rfl, (Below.refl _ _).drew⟩
    | (have hS := hS2.out
       exact ⟨(HX.out.below hS).at_ 0 rfl, (HX.out.below hS).at_ 1 rfl, (HX.out.below hS).at_ 2 rfl, (HX'.out.below hS).at_ 0 rfl, (HX'.out.below hS).at_ 1 rfl, (HX'.out.below hS).at_ 2 rfl, hS⟩))
  (first
    | (go_at_call 52
       refine (HTS.out _ ?hv).mono ?_
       case hv => (go_split_ands; assumption)
       rintro e w2 ⟨rfl, hS2'⟩;have hS2 := zI hS2')
    | (go_at_call 53
       refine (Jtn _).mono ?_;rintro e w3 ⟨rfl, rfl⟩))
 go_wp2_with fail
 go_ret;exact ⟨rfl, hS2.out⟩
section
variable {w : World} {g N C B D R gen id mp bk : Nat} {d : Addr} {lg : Option Addr} {bad : Int}
theorem Jyv (h : Bx w g 48 (Jcv N C B D R d gen id mp bk lg bad)) :
  Calls Tryz.prog 16 #[.pointer (some ⟨g, 0, none⟩)] w fun e w' => e = .returned (.int .u64 (gen : Int)) /\ w = w' := by
 have HN := zI (Jhf h);have x8 := h.at_ 8 (v := .int .u64 (gen : Int)) rfl;clear h;go_enter Tryz.func16, Tryz.ntmps16;go_wp2_with fail
 refine HN.out.mono ?_;rintro e w1 ⟨rfl, hw⟩;subst hw;go_wp2_with fail
 go_ret;exact ⟨rfl, rfl⟩
end
theorem Jyw {FB FD : Nat -> Prop} {gx N C B D R gd gen id mp bk q nP : Nat} {lg : Option Addr} {bad : Int} {pf : Nat -> Nat -> Option PRaw} {us : List Int} {a b m : Option (List Int)} {f : Int -> Option ByteArray} (s : ByteArray) (w : World)
  (h : SvS w FB FD gx N C B D R gd gen id mp bk q nP lg bad pf us a b m f) (hs : s.size <= maxLen) :
  Calls Tryz.prog 18 #[.pointer (some ⟨gx, 0, none⟩), .string s] w fun e w' => ∃ v, e = .returned v /\ w'.ownsRow w.heap.size 3 1 v (Led.heldV (Led.w3 a b m) s.data.toList).length ((Led.heldV (Led.w3 a b m) s.data.toList).map (Value.int .i64)) /\ Below w.heap.size w w' := by
 have HN := zI (Jhf h.box);have HH := zI (Led.holds_b s w h.book hs);have x11 := h.box.at_ 11 (v := .pointer (some ⟨bk, 0, none⟩)) rfl;clear h hs;go_enter Tryz.func18, Tryz.ntmps18;go_wp2_with fail
 refine HN.out.mono ?_;rintro e w1 ⟨rfl, hw⟩;subst hw;go_wp2_with fail
 refine HH.out.mono ?_;rintro e w1 ⟨v, rfl, ho, hb⟩;have HO := zI ho;have HB := zI hb;clear ho hb x11;go_wp2_with fail
 go_ret;exact ⟨v, rfl, HO.out, HB.out⟩
theorem Jqx : Jex 90 10 28 38 26 := ⟨by omega, rfl, rfl, rfl, rfl⟩
theorem Jyx (w : World) : Calls Tryz.prog 21 #[] w fun e w' => e = .returned (.int .i64 26) /\ Below w.heap.size w w' := by
 have HP := zI (Jh2 90 w (by omega) (by omega));go_enter Tryz.func21, Tryz.ntmps21;go_wp2_with fail
 refine HP.out.mono ?_;rintro e w1 ⟨rfl, hb1⟩;obtain ⟨w2, hw2⟩ : ∃ w2, w2 = w1.alloc (.cells #[.int .i64 90, .int .i64 2, .int .i64 18, .int .i64 28, .int .i64 10, .int .i64 38, .int .i64 26] 38) := ⟨_, rfl⟩;have hx2 := Bx.new w1 38 #[.int .i64 90, .int .i64 2, .int .i64 18, .int .i64 28, .int .i64 10, .int .i64 38, .int .i64 26];rw [<- hw2] at hx2;have HB2 := zI (show Below w.heap.size w w2 from by rw [hw2]; exact hb1.alloc hb1.size _);have x6 := hx2.at_ 6 (v := .int .i64 26) rfl;have HW2 := zI hw2;clear hx2 hw2 hb1;go_upto_region 2 with fail
 have e2 : w1.alloc (.cells #[.int .i64 90, .int .i64 2, .int .i64 18, .int .i64 28, .int .i64 10, .int .i64 38, .int .i64 26] 38) = w2 := HW2.out.symm;first | rw [e2] | skip
 go_wp2_with fail
 go_ret;exact ⟨rfl, HB2.out⟩
theorem J4o {w : World} {b : Nat} {T : TypeId} {s : Smp} (h : Bx w b T #[.string s.nm, .int .i64 s.tm, .int .i64 s.vl]) (hs : s.Ok) : Smps w (some ⟨b, 0, none⟩) 1 [s] := by
 refine ⟨⟨fun _ => ⟨b, 0, rfl, h.lt, fun j u hu => ?_⟩⟩, rfl, by decide, fun z hz => by rw [List.mem_singleton.1 hz]; exact hs⟩;refine h.at_ (0 + j) ?_;rw [Nat.zero_add]
 simpa [Smp.cells] using hu
theorem Js3 {D N : Nat} {ps : List Pm} (h : Jj0 D N ps) : ∀ k, k <= ps.length -> (usOf (ps.take k)).length = ((ps.take k).flatMap fun p => p.e.bl).length
 | 0, _ => by simp [usOf]
 | k + 1, hk => by
   obtain ⟨h1, h2⟩ := h.at_ (k := k) (by omega);rw [List.take_succ_eq_append_getElem (by omega), Jhg, Led.length_insAll h1 h2, Js3 h k (by omega), List.flatMap_append, List.length_append]
   simp
theorem J1t (b : Option (List Int)) (s : ByteArray) (hs : s = ⟨#[108, 105, 118, 101]⟩) : Led.heldV (Led.w3 none b none) s.data.toList = b.getD [] := by
 subst hs;exact Led.hL3 none b none
theorem Juq (ps : List Pm) : (Jcy ps).getD [] = usOf ps := by
 unfold Jcy;by_cases h : ps = []
 · rw [if_pos h, h]; rfl
 · rw [if_neg h]; rfl
theorem Jj9.hold {w : World} {FB FD : Nat -> Prop} {gx N C B D R gd gen mp bk q gl : Nat} {v v0 : SvV} {ps : List Pm} {t : Tv} (h : Jj9 w FB FD gx N C B D R gd gen mp bk q gl v ps t) (hg : t.Good) (hv : SvG D N v0 (Jah t t.tabs.length) v) :
  ((Jcy ps).getD []).length = needW (Jah t t.tabs.length) := by
 have hw := hg.wv;have mem : ∀ p ∈ ps, p.e ∈ v.es := fun p hp => by rw [<- h.es]; exact List.mem_map_of_mem hp
 have hfl : (ps.flatMap fun p => p.e.bl) = v.es.flatMap En.bl := by rw [<- h.es, List.flatMap_map]
 have key : ∀ e ∈ v.es, ∃ x ∈ Jah t t.tabs.length, e.tier = x.1 /\ e.shard = x.2.1 /\ e.bl.length = sgN x.2.2.length := by
  intro e he;obtain ⟨j, hj, rfl⟩ := List.getElem_of_mem he;have hj2 : j < (Jah t t.tabs.length).length := by rw [<- hv.es]; exact hj
  obtain ⟨a1, a2, a3, _⟩ := hv.at_ j hj hj2;exact ⟨_, List.getElem_mem hj2, a1, a2, a3⟩
 have hok : Jj0 D N ps := by
  refine ⟨fun p hp => ?_, fun p hp => ?_, fun p hp e => ?_, fun p hp => hv.bl _ (mem p hp), by rw [hfl]; exact hv.nodup⟩
  · obtain ⟨x, hx, e1, _, _⟩ := key _ (mem p hp)
    have := (hw.fit x hx).1;omega
  · obtain ⟨x, hx, _, e2, _⟩ := key _ (mem p hp)
    have := (hw.fit x hx).2.1;omega
  · obtain ⟨x, hx, _, _, e3⟩ := key _ (mem p hp)
    have := (hw.fit x hx).2.2.1;rw [e] at e3;unfold sgN at e3;simp at e3;omega
 have := Js3 hok ps.length (Nat.le_refl _);rw [List.take_length, hfl, hv.wide] at this;rw [Juq];exact this
def aSmp : Smp := ⟨⟨#[97]⟩, 0, 4⟩
theorem Jqy : Jak (⟨#[97]⟩ : ByteArray).toList = true := by decide +kernel
theorem Jyy : aSmp.Ok := ⟨by show (1 : Nat) <= maxLen; unfold maxLen; omega, by decide, by decide⟩
theorem J1u : webT.r.Gets aSmp := ⟨Jyy, Jqy, ⟨by decide, by decide⟩, by rw [Jkb]; decide⟩
theorem Jkc : webT.put [aSmp] = webV ⟨#[97]⟩ 4 := J1s Jqy 4
theorem Jcr : (webV ⟨#[97]⟩ 4).Good := Jyt Jqy ⟨by omega, by omega⟩
theorem Jlr : needW (Jah webT webT.tabs.length) = 0 := by have := Jby.needW; rw [Jhm] at this; omega
theorem Jls : needW (Jah (webV ⟨#[97]⟩ 4) (webV ⟨#[97]⟩ 4).tabs.length) = 2 := by have := Jcr.needW; rw [Jhn] at this; omega
theorem Jqz {v v0 : SvV} (h : SvG 38 90 v0 (Jah webT webT.tabs.length) v) : v.es = [] := by
 have e : Jah webT webT.tabs.length = [] := by
  cases hx : Jah webT webT.tabs.length with
  | nil => rfl
  | cons x r =>
    obtain ⟨i, s, hi, hs, _, hne⟩ := Jfy (t := webT) (k := webT.tabs.length) (x := x) (by rw [hx]; simp);rw [Jf0] at hne;exact absurd rfl hne
 rw [e] at h;exact List.eq_nil_of_length_eq_zero h.es
theorem Js4 (w : World) (hG : Glo w) :
  Calls Tryz.prog 6 #[] w fun e w' => e = .returned (.bool true) /\ Below w.heap.size w w' := by
 have HG := zI hG;have H2 := zI hG.low;have HDN := zI (Jxo 90 w (by omega) (by omega));clear hG;go_enter Tryz.func6, Tryz.ntmps6;go_wp2_with fail
 refine HDN.out.mono ?_;rintro e w1 ⟨gd, rfl, hd1, hb1⟩;have HD1 := zI hd1;have HB1 := zI hb1;clear hd1 hb1;go_wp2_with fail
 refine (Jyx w1).mono ?_;rintro e w2 ⟨rfl, hb2⟩;have HB2 := zI (HB1.out.trans (hb2.mono HB1.out.size));have HD2 := zI (HD1.out.below hb2);have HSN := zI (Jip 26 Py.webB Py.webNm Py.webTs w2 (by omega) (by decide) Py.web_read (HG.out.below HB2.out).m);have HZ12 := zI hb2.size;clear hb2;go_wp2_with fail
 refine HSN.out.mono ?_;rintro e w3 ⟨gs, rfl, hs3, hb3⟩;have HB3 := zI (HB2.out.trans (hb3.mono HB2.out.size));have HD3 := zI (HD2.out.below hb3);have HS3 := zI (show StAt w3 (made w2 w3) gs 26 webT from hs3);have hz3 := hb3.size;have hz2 := HB2.out.size;have hz1 := HB1.out.size;have hz12 := HZ12.out
 have HFO := zI (Jpo w3 HD3.out Jqx HS3.out (fun x hx hd => by have h1 := hx.1; have h2 := hd.2; omega) Jby.want Jby.wv (HG.out.below HB3.out) (fun x hx => by have h1 := hx.1; have := H2.out; omega)
  (fun v hv => hv.fits Jqx Jby (by rw [Jhm]; decide) (by show (0 : Nat) < 1000000; omega) (by omega)) (by rw [Jlr]; omega) (by omega))
 have HZ23 := zI hz3;clear hs3 hb3 hz3 hz2 hz1 hz12;go_wp2_with fail
 refine HFO.out.mono ?_;rintro e w4 ⟨gx, FB, FD, mp, bk, gl, ps, v, q, rfl, hv, hq, hs4, hgx, hFB, hFD, hc4, hmp, hgl⟩;have hes : v.es = [] := Jqz hv;have hps : ps = [] := by have h1 := hs4.es; rw [hes] at h1; simpa using h1
 subst hps
 have HDO4 := zI (show Ja5 (savF 28 90 webT 1 v) 1 = strOf (suB 1 90 (savB webT 1 v).length) from by
  show (setS _ _ _ _).getD _ = _;unfold setS;rw [if_pos (by decide)];rfl)
 obtain ⟨fT, hfT⟩ : ∃ fT, fT = savF 28 90 webT 1 v := ⟨_, rfl⟩
 have HSL := zI (show (savB webT 1 v).length <= 40000 from by
  have := (hv.fits Jqx Jby (by rw [Jhm]; decide) (by show (0 : Nat) < 1000000; omega) (gen := 0) (by omega)).1.hlen;exact this)
 have HLG4 := zI (show Ja5 fT 2 = strOf (zeros 256) from by
  rw [hfT];show (setS (putN _ _ _ _) _ _ _).getD _ = _;unfold setS;rw [if_neg (by omega), Jfz _ _ _ _ _ (.inl (by unfold Jcb; split <;> omega)), hv.low 2 (by omega)]
  exact Jxp (fun _ => none) 18 2 (by omega))
 have HS4 := zI (show SvS w4 FB FD gx 90 10 28 38 26 gd 1 v.id mp bk q 0 (some ⟨gl, 0, none⟩) 0 (fun _ _ => none) [] none none none fT from by rw [hfT]; exact hs4.st);rw [<- hfT] at HDO4;have HVI := zI (show v.id <= 0 from by have := hv.id; rw [show Jah webT webT.tabs.length = [] from List.eq_nil_of_length_eq_zero (by rw [<- hv.es, hes]; rfl)] at this; simpa using this);have HQ := zI (show q <= 10100 from by omega);have HC4 := zI hc4;have HPL := zI (show w3.heap.size <= gx /\ w3.heap.size <= mp /\ (∀ x, FB x -> w3.heap.size <= x) /\ ∀ x, FD x -> grow (made w w1) w3 w4 x from ⟨hgx, hmp, hFB, hFD⟩);have HST4 := zI (HS3.out.chg hc4 (fun x hx hd => by have h1 := hx.1; have h2 := hd.2; have := HZ12.out; omega));have HB4 := zI (HB3.out.trans (hc4.below (B := w.heap.size) (fun x hx => hx.1) HB3.out.size));clear hes hv hq hs4 hgx hFB hFD hc4 hmp hgl;obtain ⟨vi, hvi⟩ : ∃ vi, vi = v.id := ⟨_, rfl⟩;rw [<- hvi] at HS4 HVI;clear hvi;obtain ⟨w5, hw5⟩ : ∃ w5, w5 = w4.alloc (.cells #[.string ⟨#[97]⟩, .int .i64 0, .int .i64 4] 58) := ⟨_, rfl⟩;obtain ⟨gA, hgA⟩ : ∃ gA, gA = w4.heap.size := ⟨_, rfl⟩;have hx5 : Bx w5 gA 58 #[.string ⟨#[97]⟩, .int .i64 0, .int .i64 4] := by rw [hw5, hgA]; exact Bx.new _ _ _
 have hb5 : Below w4.heap.size w4 w5 := by rw [hw5]; exact (Below.refl _ _).alloc (Nat.le_refl _) _
 have HPU := zI (J0u (c := 1) w5 (HST4.out.below hb5) (by decide) (by decide) (J4o hx5 Jyy) ⟨by omega, by omega⟩ (fun i _ => by rw [Jf0]; exact Nat.zero_le _) (fun x hx => by rw [List.mem_singleton.1 hx]; exact J1u)
  (fun i hi => by have := Jby.ev hi; omega) (by rw [Jkc]; exact Jcr.rare) (by rw [Jkc, Jhn]; decide))
 rw [Jkc] at HPU;have HB5 := zI (HB4.out.trans (hb5.mono HB4.out.size));have HS5 := zI (HS4.out.below hb5);have HW5 := zI hw5;have HGA := zI hgA;have HZ45 := zI hb5.size;clear hw5 hgA hx5 hb5;go_wp2_with fail
 have e5 : w4.alloc (.cells #[.string ⟨#[97]⟩, .int .i64 0, .int .i64 4] 58) = w5 := HW5.out.symm;rw [e5, <- HGA.out];clear e5;refine HPU.out.mono ?_;rintro e w6 ⟨rfl, hs6, hc6⟩;have HZ34 := zI HC4.out.size;have hsz6 := hc6.size;have hz5 := HZ45.out;have hz34 := HZ34.out;have hz12 := HZ12.out;have hz23 := HZ23.out;have hpl := HPL.out
 have far : ∀ x, (made w2 w3 x) -> ¬ FB x /\ ¬ FD x /\ x ≠ gx /\ x ≠ mp := fun x hx => by
  have h1 := hx.1;have h2 := hx.2;refine ⟨fun h => by have := hpl.2.2.1 x h; omega, fun h => ?_, by omega, by omega⟩;rcases hpl.2.2.2 x h with h | h
  · have := h.2; omega
  · have := h.1; omega
 have hS6 := HS5.out.far hc6 far
 have hA6 : ∀ x, grow (made w2 w3) w5 w6 x -> Apart FB FD gx w6 x := fun x hx => by
  have hl := hS6.box.lt;rcases hx with hx | hx
  · have h1 := far x hx
    have := hx.2;exact ⟨h1.1, h1.2.1, h1.2.2.1, by omega⟩
  · have h1 := hx.1
    have h2 := hx.2;refine ⟨fun h => by have := HS5.out.book.ins x h; omega, fun h => by have := HS5.out.disk.ins x h; omega, ?_, h2⟩;have := HS5.out.box.lt;omega
 have hB6 := HB5.out.trans (hc6.below (B := w.heap.size) (fun x hx => by have := hx.1; have := HB2.out.size; omega) HB5.out.size)
 have HSV := zI (Jyo w6 hS6 Jqx hs6 hA6 Jcr.want Jcr.wv (HG.out.below hB6) (fun v hv => hv.fits Jqx Jcr (by rw [Jhn]; decide) (by show vi < 1000000; have := HVI.out; omega) (by omega))
  ⟨by have := H2.out; have := HB3.out.size; omega, fun x hx => by
   have h2 := H2.out;have h3 := HB3.out.size;rcases hx with hx | hx
   · have := hpl.2.2.1 x hx; omega
   · rcases hpl.2.2.2 x hx with h | h
     · have := h.1; omega
     · have := h.1; omega⟩ (by have := HVI.out; omega) (by omega) (by rw [Jls]; simp) (by have := HQ.out; omega))
 have HS6 := zI hs6;have HA6 := zI hA6;have HB6 := zI hB6
 have HFA := zI (show (∀ x, FB x -> w.heap.size <= x) /\ (∀ x, FD x -> w.heap.size <= x) /\ w.heap.size <= gx from ⟨fun x hx => by have := hpl.2.2.1 x hx; have := HB3.out.size; omega, fun x hx => by
  rcases hpl.2.2.2 x hx with h | h
  · exact h.1
  · have := h.1; have := HB3.out.size; omega, by have := HB3.out.size; omega⟩)
 clear hs6 hc6 hsz6 hz5 hz34 hz12 hz23 hpl far hS6 hA6 hB6;go_wp2_with fail
 refine HSV.out.mono ?_;rintro e w7 ⟨FB', FD', mp', bk', gl', ps, v', q', rfl, hv', hq', hs7, ht7, hm7, hgl7⟩
 have HDK := zI (J5i Jqx Jcr (by rw [Jhn]; decide) hv' (by show vi < 1000000; have := HVI.out; omega) (show 1 < 1000000 by omega)
  ⟨some (1, 90, (savB webT 1 v).length), ⟨HDO4.out, by omega, by omega, by omega, by omega, HSL.out⟩, fun x hx => by cases hx; exact Nat.le_refl _⟩ HLG4.out)
 have HS7 := zI (HS6.out.chg ht7.chg (fun x hx hf => Apart.not x (HA6.out x hx) hf))
 have HB7 := zI (HB6.out.trans (ht7.chg.below (B := w.heap.size) (fun x hx => by
  rcases hx with rfl | hx | hx
  · exact HFA.out.2.2
  · exact HFA.out.1 x hx
  · exact HFA.out.2.1 x hx) HB6.out.size))
 have HV7 := zI hs7.st;have HLN := zI (hs7.hold Jcr hv');rw [Jls] at HLN;have HOP := zI (J4m 2 v'.id _ _ _ _ _ _ _ _ w7 HV7.out.disk Jqx (HG.out.below HB7.out) HDK.out);clear hv' hq' hs7 ht7 hm7 hgl7;go_wp2_with fail
 refine HOP.out.mono ?_;rintro e w8 ⟨gy, gt, mp8, bk8, FB8, ps8, rfl, hpe, hv8, hst8, hb8⟩;have HV8 := zI hv8;have HST8 := zI hst8;have HB8 := zI (HB7.out.trans (hb8.mono HB7.out.size));have HX8 := zI (HV7.out.below hb8);have HS8 := zI (HS7.out.below hb8);clear hpe hv8 hst8 hb8;have hbx : Bx w8 gx 48 (Jcv 90 10 28 38 26 ⟨gd, 0, none⟩ 2 v'.id mp' bk' (some ⟨gl', 0, none⟩) 0) := HX8.out.box;have hby : Bx w8 gy 48 (Jcv 90 10 28 38 26 ⟨gd, 0, none⟩ 2 v'.id mp8 bk8 none 0) := HV8.out.box;have HGX := zI (fun W (hW : Below w8.heap.size w8 W) => (show Calls Tryz.prog 16 #[.pointer (some ⟨gx, 0, none⟩)] W fun e w' => e = .returned (.int .u64 2) /\ W = w' from Jyv (hbx.below hW)));have HGY := zI (fun W (hW : Below w8.heap.size w8 W) => (show Calls Tryz.prog 16 #[.pointer (some ⟨gy, 0, none⟩)] W fun e w' => e = .returned (.int .u64 2) /\ W = w' from Jyv (hby.below hW)));have HSA := zI (fun W (hW : Below w8.heap.size w8 W) => (Jyu (fs := (webV ⟨#[97]⟩ 4).r.fs) W (HST8.out.below hW) (HS8.out.below hW) (Juo (webV ⟨#[97]⟩ 4)).symm Jcr.withFs.same).mono (fun e w' (hh : e = .returned (.bool true) /\ Below W.heap.size W w') => (show e = .returned (.bool true) /\ Below w8.heap.size w8 w' from ⟨hh.1, hW.trans (hh.2.mono hW.size)⟩)))
 have HHO := zI (fun W (hW : Below w8.heap.size w8 W) => (Jyw ⟨#[108, 105, 118, 101]⟩ W (HX8.out.below hW) (by decide)).mono (fun e w' hh => (show (∃ A c, e = .returned (.slice A 2 c)) /\ Below w8.heap.size w8 w' from by
  obtain ⟨v, rfl, ho, hb⟩ := hh;rw [J1t _ _ rfl, HLN.out] at ho;obtain ⟨A3, c3, rfl, _⟩ := Jaq ho;exact ⟨⟨A3, c3, rfl⟩, hW.trans (hb.mono hW.size)⟩)))
 have HRM := zI (fun W (hW : Below w8.heap.size w8 W) => (Jyx W).mono (fun e w' (hh : e = .returned (.int .i64 26) /\ Below W.heap.size W w') => (show e = .returned (.int .i64 26) /\ Below w8.heap.size w8 w' from ⟨hh.1, hW.trans (hh.2.mono hW.size)⟩)));have HXX := zI (fun W (hW : Below w8.heap.size w8 W) => (hbx.below hW).at_ 6 (v := .int .i64 26) rfl);have y6 := HXX.out w8.drew ((Below.refl _ _).drew);clear hbx hby;go_upto_region 7 with fail
 go_region_held3 (fun w' => w'.cell? ⟨gx, 6, none⟩ = some (.int .i64 26) /\ Below w8.heap.size w8 w')
  (first
    | exact ⟨y6, (Below.refl _ _).drew⟩
    | exact ⟨HXX.out _ hS2.out, hS2.out⟩
    | exact ⟨HXX.out _ hS3.out, hS3.out⟩
    | exact ⟨HXX.out _ hS4.out, hS4.out⟩)
  (first
    | (go_at_call 16
       with_reducible refine (HGX.out _ ?hv).mono ?_
       case hv => (go_split_ands; assumption)
       rintro e w9 ⟨rfl, rfl⟩)
    | (go_at_call 16
       with_reducible refine (HGY.out _ ?hv).mono ?_
       case hv => (go_split_ands; assumption)
       rintro e w9 ⟨rfl, rfl⟩)
    | (go_at_call 23
       refine (HSA.out _ ?hv).mono ?_
       case hv => (go_split_ands; assumption)
       rintro e w9 ⟨rfl, hS2'⟩;have hS2 := zI hS2')
    | (go_at_call 18
       refine (HHO.out _ ?hv).mono ?_
       case hv => (go_split_ands; assumption)
       rintro e w10 ⟨⟨A3, c3, rfl⟩, hS3'⟩;have hS3 := zI hS3')
    | (go_at_call 21
       refine (HRM.out _ ?hv).mono ?_
       case hv => (go_split_ands; assumption)
       rintro e w11 ⟨rfl, hS4'⟩;have hS4 := zI hS4'))
 go_wp2_with fail
 go_ret;exact ⟨rfl, HB8.out.trans (hS4.out.mono HB8.out.size)⟩
abbrev stoZ : Array Value := #[.int .i64 0, .int .i64 0, .int .i64 0, .int .i64 0, .int .i64 0, .int .i64 0, .int .i64 0, .pointer none, .int .u64 0, .int .u64 0, .map none, .pointer none, .pointer none, .int .i64 0]
def Jig (w : World) (v : Value) : Prop := v = .pointer none \/ ∃ g, v = .pointer (some ⟨g, 0, none⟩) /\ Bx w g 48 stoZ
theorem Jf1 (v : Value) (w : World) (h : Jig w v) : Calls Tryz.prog 40 #[v] w fun e w' => e = .returned (.bool true) /\ w = w' := by
 rcases h with rfl | ⟨g, rfl, hx⟩
 · go_enter Tryz.func40, Tryz.ntmps40
   go_wp2_with fail
   go_ret;exact ⟨rfl, rfl⟩
 · have x7 := hx.at_ 7 (v := .pointer none) rfl
   clear hx;go_enter Tryz.func40, Tryz.ntmps40;go_wp2_with fail
   go_ret;exact ⟨rfl, rfl⟩
theorem Jyz (v : Value) (w : World) (h : Jig w v) : Calls Tryz.prog 16 #[v] w fun e w' => e = .returned (.int .u64 0) /\ w = w' := by
 have HN := zI (Jf1 v w h);clear h;go_enter Tryz.func16, Tryz.ntmps16;go_wp2_with fail
 refine HN.out.mono ?_;rintro e w1 ⟨rfl, hw⟩;subst hw;go_wp2_with fail
 go_ret;exact ⟨rfl, rfl⟩
theorem Jy0 (v : Value) (w : World) (h : Jig w v) : Calls Tryz.prog 15 #[v] w fun e w' => e = .returned (.pointer none) /\ w = w' := by
 have HN := zI (Jf1 v w h);clear h;go_enter Tryz.func15, Tryz.ntmps15;go_wp2_with fail
 refine HN.out.mono ?_;rintro e w1 ⟨rfl, hw⟩;subst hw;go_wp2_with fail
 go_ret;exact ⟨rfl, rfl⟩
theorem Js5 (v : Value) (w : World) (h : Jig w v) : Calls Tryz.prog 17 #[v] w fun e w' => e = .returned (.slice none 0 0) /\ w = w' := by
 have HN := zI (Jf1 v w h);clear h;go_enter Tryz.func17, Tryz.ntmps17;go_wp2_with fail
 refine HN.out.mono ?_;rintro e w1 ⟨rfl, hw⟩;subst hw;go_wp2_with fail
 go_ret;exact ⟨rfl, rfl⟩
theorem Jpp (v : Value) (s : ByteArray) (w : World) (h : Jig w v) : Calls Tryz.prog 18 #[v, .string s] w fun e w' => e = .returned (.slice none 0 0) /\ w = w' := by
 have HN := zI (Jf1 v w h);clear h;go_enter Tryz.func18, Tryz.ntmps18;go_wp2_with fail
 refine HN.out.mono ?_;rintro e w1 ⟨rfl, hw⟩;subst hw;go_wp2_with fail
 go_ret;exact ⟨rfl, rfl⟩
end Go.Proofs.YtalkkhafcfhglaaGreatDoor
