/-
  'm[k] = append(m[k], v)' where it stands as an entry that is taken and stored back: the law of groups, over the pair of operations.
-/
import Derived.Test.YtcglbbabfkbcbadGreatM1
import Derived.Maps.OwnRows
import Derived.WideKeyEntry
namespace Go.Proofs.YtcglbbabfkbcbadGreat
open Go.RowKit Go.Maps Go.ChangeMaps Go.WideElems
open Go.WideMaps (KeyLaw)

theorem key_unique {es : List MapEntry} (h : (es.map (·.key)).Nodup) {x y : MapEntry} (hx : x ∈ es) (hy : y ∈ es) (e : x.key = y.key) : x = y := by
  induction es with
  | nil => cases hx
  | cons a r ih =>
    simp only [List.map_cons, List.nodup_cons] at h
    rcases List.mem_cons.1 hx with e1 | h1
    · rcases List.mem_cons.1 hy with e2 | h2
      · rw [e1, e2]
      · exact absurd (List.mem_map.2 ⟨y, h2, by rw [← e1, e]⟩) h.1
    · rcases List.mem_cons.1 hy with e2 | h2
      · exact absurd (List.mem_map.2 ⟨x, h1, by rw [← e2, e]⟩) h.1
      · exact ih h.2 h1 h2
section
variable {H : Type} {P : Program} {w : World} {t k E e : TypeId} {base : Nat} {q : IntKind} {b n : Nat} {D : DataW H}
/-- mapUpdate asks of the world the map's block alone. -/
theorem update_same (K : KeyLaw P k) (ht : P.underlying t = some (.map k E)) {R : Value → Option (DataW H × List MemPlace)} {es : Array MapEntry} {clock : Nat} (F : Fit P k R es clock) {u : World} (hb : w.heap[b]? = some (.map es clock)) (hu : u.heap[b]? = some (.map es clock))
    {key val : Value} {kl : Lit} (hkey : keyOf P k key = some kl) {es' : Array MapEntry} {clock' : Nat} (h : (Instr.mapUpdate t (.map (some b)) key val).run P w = .ok () (setBlock w b (.map es' clock'))) :
    (Instr.mapUpdate t (.map (some b)) key val).run P u = .ok () (setBlock u b (.map es' clock')) := by
  have inj : ∀ {x y : Obj}, setBlock w b x = setBlock w b y → x = y := fun {x y} e => by
    have hl : b < w.heap.size := (Array.getElem?_eq_some_iff.1 hb).1
    have h1 : (setBlock w b x).heap[b]? = (setBlock w b y).heap[b]? := by rw [e]
    simpa [setBlock, hl] using h1
  rcases K.find w hkey es.toList F.keys with ⟨h1, h2⟩ | ⟨j, e0, h1, h2, h3⟩
  · rcases K.find u hkey es.toList F.keys with ⟨g1, _⟩ | ⟨j', e0', _, g2, g3⟩
    · simp [Instr.mapUpdate, run_underlying ht, MapKept.run_getObj_map hb, K.check w false hkey, h1, MapKept.run_setObj_map _ hb, Result.andThen] at h
      have h' := inj (x := .map (es.push ⟨key, val, clock⟩) (clock + 1)) (y := .map es' clock') h
      cases h'
      simp [Instr.mapUpdate, run_underlying ht, MapKept.run_getObj_map hu, K.check u false hkey, g1, MapKept.run_setObj_map _ hu, Result.andThen, setBlock]
    · exact absurd g3 (h2 e0' (List.mem_of_getElem? g2))
  · rcases K.find u hkey es.toList F.keys with ⟨_, g2⟩ | ⟨j', e0', g1, g2, g3⟩
    · exact absurd h3 (g2 e0 (List.mem_of_getElem? h2))
    · have he : e0 = e0' := key_unique F.stamped.2.2 (List.mem_of_getElem? h2) (List.mem_of_getElem? g2) (h3.trans g3.symm)
      subst he
      have hjj : j = j' := by
        have hn := F.stamped.2.1
        obtain ⟨hj, e1⟩ := List.getElem?_eq_some_iff.1 h2
        obtain ⟨hj', e2⟩ := List.getElem?_eq_some_iff.1 g2
        have := (List.getElem_inj (h₀ := by simpa using hj) (h₁ := by simpa using hj') hn).1 (by simp only [List.getElem_map]; rw [e1, e2])
        exact this
      subst hjj
      have hj : es[j]? = some e0 := by simpa using h2
      simp [Instr.mapUpdate, run_underlying ht, MapKept.run_getObj_map hb, K.check w false hkey, h1, hj, h3, K.stays w hkey, MapKept.run_setObj_map _ hb, Result.andThen] at h
      have h' := inj (x := .map (es.modify j fun e' => { e' with key := key, val := val }) clock) (y := .map es' clock') h
      cases h'
      simp [Instr.mapUpdate, run_underlying ht, MapKept.run_getObj_map hu, K.check u false hkey, g1, hj, h3, K.stays u hkey, MapKept.run_setObj_map _ hu, Result.andThen, setBlock]
/-- The entry taken; and the way back. -/
theorem groups_entry {key : Value} {kl : Lit} (h : w.ownsGroups P k base e q b n D) (K : KeyLaw P k) (ht : P.underlying t = some (.map k E)) (hz : ∀ u : World, (zeroValue E).run P u = .ok (.slice none 0 0) u) (hn : n < maxLen) (hkey : keyOf P k key = some kl) :
    ∃ v zs st w1, (Instr.mapEntry t (.map (some b)) key).run P w = .ok (.tuple #[v, .int .i64 st]) w1 ∧ D.atKey kl .nil = rowDatum q v zs ∧ w.ownsInts base e q v zs ∧ w1.ownsInts base e q v zs ∧ zs.length ≤ n ∧ w.grownBy w1 (some b) ∧ w1.heap.size = w.heap.size ∧
      ∀ (w2 : World) (v' : Value) (zs' : List Int), w1.grownBy w2 v.ownBlock → w2.ownsInts base e q v' zs' → zs'.length ≤ n + 1 → (v'.ownBlock = v.ownBlock ∨ ∃ g, v'.ownBlock = some g ∧ w.heap.size ≤ g) →
        ∃ w3, (Instr.entryStore t (.map (some b)) (.int .i64 st) v').run P w2 = .ok () w3 ∧ w3.ownsGroups P k base e q b (n + 1) (D.put kl (rowDatum q v' zs')) ∧ w2.grownBy w3 (some b) := by
  obtain ⟨v, zs, hrun, hat, hoi, hzl, hback⟩ := h.at (Keyed.of_law K) ht (hz w) hn hkey
  obtain ⟨es, clock, hb, F, hs, hD, hbb, hlen, hap⟩ := h
  have hbl : b < w.heap.size := (Array.getElem?_eq_some_iff.1 hb).1
  obtain ⟨v0, st, es1, clock1, hent, hv0, hst⟩ := entry_then_store K ht hz hb F hkey
  have hvv : v0 = v := by
    rcases Maps.fit_look false (Keyed.of_law K) ht (hz w) hb F hkey with ⟨hrun', hno, _⟩ | ⟨e0, y, hm0, h3, hrun', _⟩
    · rw [hrun] at hrun'
      have ev : v = .slice none 0 0 := by simpa using hrun'
      rcases hv0 with ⟨e0, hm, hk, _⟩ | ⟨_, e1⟩
      · exact absurd hk (hno e0 hm)
      · rw [e1, ev]
    · rw [hrun] at hrun'
      have ev : v = e0.val := by simpa using hrun'
      rcases hv0 with ⟨e1, hm, hk, e2⟩ | ⟨hno, _⟩
      · have := key_unique F.stamped.2.2 hm hm0 (hk.trans h3.symm)
        rw [e2, ev, this]
      · exact absurd h3 (hno e0 hm0)
  subst hvv
  have hg1 : w.grownBy (setBlock w b (.map es1 clock1)) (some b) := ⟨rfl, rfl, rfl, by simp [setBlock], fun i _ hi => heap_setBlock_other hb _ (fun e1 => hi (by rw [e1]))⟩
  have own_ne : ∀ {w : World} {u : Value} {ys : List Int}, w.ownsInts base e q u ys → u.ownBlock = none ∨ u.ownBlock ≠ some b := fun {w u ys} ho => by
    cases hu : u.ownBlock with
    | none => exact Or.inl rfl
    | some g =>
      refine Or.inr (fun e1 => ?_)
      have := (ho.1.lt g hu).1
      cases e1
      omega
  refine ⟨v0, zs, st, _, hent, hat, hoi, hoi.kept hg1 (own_ne hoi), hzl, hg1, by simp [setBlock], fun w2 v' zs' hg hown' hl' hloc => ?_⟩
  have hvb : some b ≠ v0.ownBlock := by
    rcases own_ne hoi with h0 | h0
    · rw [h0]; simp
    · exact fun e => h0 e.symm
  have hb1 : (setBlock w b (.map es1 clock1)).heap[b]? = some (.map es1 clock1) := heap_setBlock_same hb _
  have hb2 : w2.heap[b]? = some (.map es1 clock1) := (hg.block b (by simpa [setBlock] using hbl) hvb).trans hb1
  obtain ⟨es', clock', hes, hup⟩ := hst w2 v' hb2
  -- the world as if the entry had not been taken
  obtain ⟨u, hu⟩ : ∃ u, u = setBlock w2 b (.map es clock) := ⟨_, rfl⟩
  have hub : u.heap[b]? = some (.map es clock) := by rw [hu]; exact heap_setBlock_same hb2 _
  have hgu2 : w2.grownBy u (some b) := by rw [hu]; exact ⟨rfl, rfl, rfl, by simp [setBlock], fun i _ hi => heap_setBlock_other hb2 _ (fun e1 => hi (by rw [e1]))⟩
  have hgu : w.grownBy u v0.ownBlock := by
    refine ⟨(hgu2.os.trans hg.os).trans hg1.os, (hgu2.tape.trans hg.tape).trans hg1.tape, (hgu2.output.trans hg.output).trans hg1.output, Nat.le_trans hg1.size (Nat.le_trans hg.size hgu2.size), fun i hi hne => ?_⟩
    by_cases e1 : i = b
    · subst e1; rw [hub, hb]
    · have e2 : some i ≠ some b := fun e3 => e1 (by injection e3)
      exact (hgu2.block i (Nat.lt_of_lt_of_le hi (Nat.le_trans hg1.size hg.size)) e2).trans ((hg.block i (Nat.lt_of_lt_of_le hi hg1.size) hne).trans (hg1.block i hi e2))
  have hownu : u.ownsInts base e q v' zs' := hown'.kept hgu2 (own_ne hown')
  obtain ⟨w3, hrun3, hgr3, hg3⟩ := hback u v' zs' hgu hownu hl' hloc
  have hup3 := update_same K ht F hb hub hkey hup
  rw [hrun3] at hup3
  have e3 : w3 = setBlock u b (.map es' clock') := by simpa using hup3
  have e4 : setBlock u b (.map es' clock') = setBlock w2 b (.map es' clock') := by rw [hu]; simp [setBlock]
  refine ⟨_, hes, by rw [← e4, ← e3]; exact hgr3, ?_⟩
  exact ⟨rfl, rfl, rfl, by simp [setBlock], fun i _ hi => heap_setBlock_other hb2 _ (fun e1 => hi (by rw [e1]))⟩
end
end Go.Proofs.YtcglbbabfkbcbadGreat
