/-
  Several texts in one: WordFewA, PolLines, NameP, RefNameP, RefCheckP, PolSaid.
-/
import Derived.Test.YtalkkhafcfhglaaGreatDoorQ19
set_option maxRecDepth 100000
set_option maxHeartbeats 4000000
namespace Go.Proofs.YtalkkhafcfhglaaGreatDoor.Py
open Go.RowKit
theorem Jjp : ∀ (l : List UInt8) (n : Int), (∀ x ∈ l, x = 10 \/ okB x = true) -> cutE n (Jao l) = 0
 | [], n, _ => by simp [Jao, cutE]
 | c :: l, n, h => by
   by_cases hc : c = 10
   · subst hc
     have e : Jao (10 :: l) = [] :: Jao l := (by rw [Jao, if_pos rfl]);rw [e];exact Jjp l (n + 1) (fun x hx => h x (by simp [hx]))
   · obtain ⟨z, zs, e1, e2⟩ := Jon hc l
     have ih := Jjp l n (fun x hx => h x (by simp [hx]));have hco : okB c = true := (h c (by simp)).resolve_left hc;rw [e1] at ih;rw [e2, <- ih];show (if (c :: z).all okB = true then cutE (n + 1) zs else n) = (if z.all okB = true then cutE (n + 1) zs else n);simp [hco]
def Jfb (l : List UInt8) : List (List UInt8) := txts (Jae 1 l)
structure J45 (a b : LSt) : Prop where
 out : a.out.map (fun x => (x.text, x.col)) = b.out.map (fun x => (x.text, x.col))
 op : a.op = b.op
 i : a.i = b.i
theorem Jr2 (c : UInt8) : ∀ (a b : List Wd), a.map (fun x => (x.text, x.col)) = b.map (fun x => (x.text, x.col)) -> (Ja8 c a).map (fun x => (x.text, x.col)) = (Ja8 c b).map (fun x => (x.text, x.col))
 | [], [], _ => rfl
 | [], y :: r, h => by simp at h
 | x :: r, [], h => by simp at h
 | [x], [y], h => by simp at h; simp [Ja8, h]
 | [x], y :: z :: r, h => by simp at h
 | x :: z :: r, [y], h => by simp at h
 | x :: z :: r, y :: u :: q, h => by
   show (x :: Ja8 c (z :: r)).map _ = (y :: Ja8 c (u :: q)).map _;rw [List.map_cons, List.map_cons] at h ⊢;injection h with h1 h2;rw [h1, Jr2 c (z :: r) (u :: q) h2]
theorem J0n (n m : Int) (l : List UInt8) : J45 (lst n l) (lst m l) := by
 obtain ⟨k, rfl⟩ : ∃ k : List UInt8, l = k.reverse := ⟨l.reverse, by simp⟩
 induction k with
 | nil => exact ⟨rfl, rfl, rfl⟩
 | cons c r ih =>
   rw [List.reverse_cons, Jc2, Jc2];obtain ⟨h1, h2, h3⟩ := ih;unfold Jdn;by_cases hb : Jcq c.toNat = true
   · rw [if_pos hb, if_pos hb]; exact ⟨h1, rfl, by simp only [h3]⟩
   · rw [if_neg hb, if_neg hb, h2]
     split
     · exact ⟨Jr2 c _ _ h1, rfl, by simp only [h3]⟩
     · exact ⟨by simp only [List.map_append, h1, List.map_cons, List.map_nil, h3], rfl, by simp only [h3]⟩
theorem Jfc : ∀ (a b : List Wd), txts a = txts b -> txts (a.takeWhile Ja2) = txts (b.takeWhile Ja2)
 | [], [], _ => rfl
 | [], y :: r, h => by simp [txts] at h
 | x :: r, [], h => by simp [txts] at h
 | x :: r, y :: q, h => by
   have h' : x.text :: txts r = y.text :: txts q := h;injection h' with h1 h2;have e : Ja2 x = Ja2 y := by unfold Ja2; rw [h1]
   rw [List.takeWhile_cons, List.takeWhile_cons, e];split
   · show x.text :: txts _ = y.text :: txts _
     rw [h1, Jfc r q h2]
   · rfl
theorem Jd4 (n : Int) (l : List UInt8) : txts (Jae n l) = Jfb l := by
 refine Jfc _ _ ?_;have h := congrArg (List.map Prod.fst) (J0n n 1 l).out;rw [List.map_map, List.map_map] at h;exact h
theorem Jga (n : Int) (l : List UInt8) : ∀ x ∈ Jae n l, x.line = n := fun x hx => (Jrx n l x ((List.takeWhile_sublist _).subset hx)).2
theorem Jop : ∀ (ls : List (List UInt8)) (n : Int), ∀ x ∈ cutW n ls, n <= x.line
 | [], _, x, h => by simp [cutW] at h
 | y :: r, n, x, h => by
   rcases List.mem_append.1 (show x ∈ Jae n y ++ cutW (n + 1) r from h) with h | h
   · have := Jga n y x h; omega
   · have := Jop r (n + 1) x h; omega
theorem Jfd {p : Wd -> Bool} : ∀ (a b : List Wd), (∀ x ∈ a, p x = true) -> (∀ x ∈ b, p x = false) -> (a ++ b).takeWhile p = a
 | [], [], _, _ => rfl
 | [], y :: r, _, h => by simp [h y (by simp)]
 | x :: r, b, h, k => by rw [List.cons_append, List.takeWhile_cons, if_pos (h x (by simp)), Jfd r b (fun y hy => h y (by simp [hy])) k]
theorem Jk2 {n : Int} {l : List UInt8} {r : List (List UInt8)} (h : Jae n l ≠ []) : Jdb (cutW n (l :: r)) = Jae n l /\ Jr1 (cutW n (l :: r)) = cutW (n + 1) r /\ Jcd (cutW n (l :: r)) = n := by
 have hl := Jga n l;have hr := Jop r (n + 1);have e : cutW n (l :: r) = Jae n l ++ cutW (n + 1) r := rfl
 have h1 : Jdb (cutW n (l :: r)) = Jae n l := by
  rw [e]
  obtain ⟨x, q, hx⟩ : ∃ x q, Jae n l = x :: q := by
   cases hh : Jae n l with
   | nil => exact absurd hh h
   | cons x q => exact ⟨x, q, rfl⟩
  have hxn := hl x (by rw [hx]; simp);rw [hx, List.cons_append];show (x :: (q ++ cutW (n + 1) r)).takeWhile (fun y => decide (y.line = x.line)) = _;rw [<- List.cons_append, <- hx];refine Jfd _ _ (fun y hy => ?_) (fun y hy => ?_)
  · rw [hl y hy, hxn]; exact decide_eq_true rfl
  · have := hr y hy; exact decide_eq_false (by omega)
 refine ⟨h1, ?_, ?_⟩
 · unfold Jr1
   rw [h1, e, List.drop_left]
 · rw [e]
   cases hh : Jae n l with
   | nil => exact absurd hh h
   | cons x q => exact hl x (by rw [hh]; simp)
theorem Jg8 {l : List Wd} : txts l = [] ↔ l = [] := by cases l <;> simp [txts]
def Jde (nm : List UInt8) : Int -> List (List UInt8) -> List Ti -> Rd
 | _, [], acc => .good nm acc
 | n, l :: r, acc => if Jfb l = [] then Jde nm (n + 1) r acc else if Jcw (Jfb l) acc.length = true then Jde nm (n + 1) r (acc ++ [Jmm (Jfb l)]) else .bad 22 n
theorem Jjq (nm : List UInt8) : ∀ (ls : List (List UInt8)) (n : Int) (f : Nat) (acc : List Ti), (cutW n ls).length <= f -> Jf9 nm f (cutW n ls) acc = Jde nm n ls acc
 | [], n, f, acc, _ => by
   cases f with
   | zero => rfl
   | succ f => show (if (cutW n []) = [] then _ else _) = _; rw [if_pos (show cutW n [] = [] from rfl)]; rfl
 | l :: r, n, f, acc, hf => by
   unfold Jde;by_cases h : Jae n l = []
   · have e : cutW n (l :: r) = cutW (n + 1) r := by show Jae n l ++ _ = _; rw [h]; rfl
     rw [if_pos (by rw [<- Jd4 n]; exact Jg8.2 h), e, Jjq nm r (n + 1) f acc (by rw [<- e]; exact hf)]
   · obtain ⟨h1, h2, h3⟩ := Jk2 (r := r) h
     have hne : cutW n (l :: r) ≠ [] := fun e => h (List.append_eq_nil_iff.1 (show Jae n l ++ cutW (n + 1) r = [] from e)).1;have hlen : (cutW n (l :: r)).length = (Jae n l).length + (cutW (n + 1) r).length := List.length_append;have hpos : 0 < (Jae n l).length := List.length_pos_iff.2 h;rw [if_neg (fun e => h (Jg8.1 (by rw [Jd4 n]; exact e)))]
     match f, hf with
     | 0, hf => omega
     | f + 1, hf =>
       show (if cutW n (l :: r) = [] then _ else _) = _;rw [if_neg hne, h1, h2, h3, Jd4];by_cases ht : Jcw (Jfb l) acc.length = true
       · rw [if_pos ht, if_pos ht, Jjq nm r (n + 1) f _ (by omega)]
       · rw [if_neg ht, if_neg ht]
def Jk3 : Int -> List (List UInt8) -> Rd
 | _, [] => .bad 22 1
 | n, l :: r => if Jfb l = [] then Jk3 (n + 1) r else if Jeu (Jfb l) = true then Jde (txt (Jfb l) 1) (n + 1) r [] else .bad 22 n
theorem Joq : ∀ (ls : List (List UInt8)) (n : Int), Jcx (cutW n ls) = Jk3 n ls
 | [], n => by
   show (if Jeu (txts (Jdb [])) = true then _ else _) = _;rw [if_neg (by decide)]; rfl
 | l :: r, n => by
   unfold Jk3;by_cases h : Jae n l = []
   · have e : cutW n (l :: r) = cutW (n + 1) r := by show Jae n l ++ _ = _; rw [h]; rfl
     rw [if_pos (by rw [<- Jd4 n]; exact Jg8.2 h), e, Joq r (n + 1)]
   · obtain ⟨h1, h2, h3⟩ := Jk2 (r := r) h
     have hlen : (cutW n (l :: r)).length = (Jae n l).length + (cutW (n + 1) r).length := List.length_append;rw [if_neg (fun e => h (Jg8.1 (by rw [Jd4 n]; exact e)))];unfold Jcx;rw [h1, h2, h3, Jd4, Jjq _ r (n + 1) _ _ (by omega)]
theorem Jwh (s : ByteArray) : Jdc s = if 4000 < s.size then .bad 2 0 else if cutE 1 (Jao s.toList) ≠ 0 then .bad 22 (cutE 1 (Jao s.toList)) else Jk3 1 (Jao s.toList) := by
 unfold Jdc;rw [Joq, Joh]
def Jf2 (n : Int) (s : LSt) (l : List UInt8) : LSt := l.foldl (Jdn n) s
theorem Jfe (n : Int) (s : LSt) (a b : List UInt8) : Jf2 n s (a ++ b) = Jf2 n (Jf2 n s a) b := by simp [Jf2, List.foldl_append]
theorem Jib (n : Int) : ∀ (g : List UInt8) (o : List Wd) (p : Bool) (i : Nat), g ≠ [] -> (∀ c ∈ g, Jcq c.toNat = true) -> Jf2 n ⟨o, p, i⟩ g = ⟨o, false, i + g.length⟩
 | [], _, _, _, h, _ => absurd rfl h
 | [c], o, p, i, _, h => by
   show Jdn n ⟨o, p, i⟩ c = _;unfold Jdn; rw [if_pos (h c (by simp))]; rfl
 | c :: d :: r, o, p, i, _, h => by
   have e : Jdn n ⟨o, p, i⟩ c = ⟨o, false, i + 1⟩ := by unfold Jdn; rw [if_pos (h c (by simp))]
   show Jf2 n (Jdn n ⟨o, p, i⟩ c) (d :: r) = _;rw [e, Jib n (d :: r) o false (i + 1) (by simp) (fun x hx => h x (by simp [hx]))]
   simp; omega
theorem Jk4 (n : Int) : ∀ (w : List UInt8) (p : List Wd) (x : Wd) (i : Nat), (∀ c ∈ w, Jcq c.toNat = false) -> Jf2 n ⟨p ++ [x], true, i⟩ w = ⟨p ++ [⟨x.text ++ w, x.line, x.col⟩], true, i + w.length⟩
 | [], p, x, i, _ => by simp [Jf2]
 | c :: r, p, x, i, h => by
   have e : Jdn n ⟨p ++ [x], true, i⟩ c = ⟨p ++ [⟨x.text ++ [c], x.line, x.col⟩], true, i + 1⟩ := by
    unfold Jdn; rw [if_neg (by rw [h c (by simp)]; decide), if_pos rfl, Je5]
   show Jf2 n (Jdn n ⟨p ++ [x], true, i⟩ c) r = _;rw [e, Jk4 n r p _ (i + 1) (fun y hy => h y (by simp [hy]))]
   simp; omega
theorem Jk5 (n : Int) (w : List UInt8) (o : List Wd) (i : Nat) (hne : w ≠ []) (h : ∀ c ∈ w, Jcq c.toNat = false) : ∃ x : Wd, x.text = w /\ Jf2 n ⟨o, false, i⟩ w = ⟨o ++ [x], true, i + w.length⟩ := by
 match w, hne with
 | c :: r, _ =>
   have e : Jdn n ⟨o, false, i⟩ c = ⟨o ++ [⟨[c], n, (i : Int) + 1⟩], true, i + 1⟩ := by
    unfold Jdn; rw [if_neg (by rw [h c (by simp)]; decide), if_neg (by simp)]
   refine ⟨⟨c :: r, n, (i : Int) + 1⟩, rfl, ?_⟩;show Jf2 n (Jdn n ⟨o, false, i⟩ c) r = _;rw [e, Jk4 n r o _ (i + 1) (fun y hy => h y (by simp [hy]))]
   simp; omega
structure Jjr (w : List UInt8) : Prop where
 ne : w ≠ []
 free : ∀ c ∈ w, Jcq c.toNat = false
structure Gap (g : List UInt8) : Prop where
 ne : g ≠ []
 blank : ∀ c ∈ g, Jcq c.toNat = true
def Jdf (ps : List (List UInt8 × List UInt8)) : List UInt8 := ps.flatMap fun p => p.1 ++ p.2
theorem Jk6 (n : Int) : ∀ (ps : List (List UInt8 × List UInt8)) (o : List Wd) (i : Nat), (∀ p ∈ ps, Jjr p.1 /\ Gap p.2) -> ∃ ws i', Jf2 n ⟨o, false, i⟩ (Jdf ps) = ⟨o ++ ws, false, i'⟩ /\ txts ws = ps.map Prod.fst
 | [], o, i, _ => ⟨[], i, by simp [Jdf, Jf2], rfl⟩
 | p :: r, o, i, h => by
   obtain ⟨hw, hg⟩ := h p (by simp);obtain ⟨x, hx, e1⟩ := Jk5 n p.1 o i hw.ne hw.free;obtain ⟨ws, i', e2, ht⟩ := Jk6 n r (o ++ [x]) (i + p.1.length + p.2.length) (fun q hq => h q (by simp [hq]));refine ⟨x :: ws, i', ?_, by simp [txts] at ht ⊢; exact ⟨hx, ht⟩⟩;show Jf2 n _ ((p.1 ++ p.2) ++ Jdf r) = _;rw [Jfe, Jfe, e1, Jib n p.2 _ _ _ hg.ne hg.blank, e2]; simp
def remG (g : List (List UInt8)) : List (List UInt8) := g.takeWhile fun t => t.head? != some 35
theorem Jmp : ∀ l : List Wd, txts (l.takeWhile Ja2) = remG (txts l)
 | [] => rfl
 | x :: r => by
   show _ = List.takeWhile _ (x.text :: txts r);rw [List.takeWhile_cons, List.takeWhile_cons];show txts (if Ja2 x = true then _ else _) = if Ja2 x = true then _ else _;split
   · show x.text :: txts _ = _; rw [Jmp r]; rfl
   · rfl
theorem Jk7 (ps : List (List UInt8 × List UInt8)) (h : ∀ p ∈ ps, Jjr p.1 /\ Gap p.2) (w : List UInt8) (hw : Jjr w) : Jfb (Jdf ps ++ w) = remG (ps.map Prod.fst ++ [w]) /\ Jfb (Jdf ps) = remG (ps.map Prod.fst) := by
 obtain ⟨ws, i, e, ht⟩ := Jk6 1 ps [] 0 h;obtain ⟨x, hx, e2⟩ := Jk5 1 w ws i hw.ne hw.free;have e0 : lst 1 (Jdf ps) = ⟨ws, false, i⟩ := by show Jf2 1 ⟨[], false, 0⟩ _ = _; rw [e]; rfl
 have e1 : lst 1 (Jdf ps ++ w) = ⟨ws ++ [x], true, i + w.length⟩ := by
  show Jf2 1 ⟨[], false, 0⟩ _ = _;rw [Jfe, e]; exact e2
 constructor
 · show txts ((lst 1 (Jdf ps ++ w)).out.takeWhile Ja2) = _
   rw [e1, Jmp];show remG (txts (ws ++ [x])) = _
   congr 1
   simp [txts] at ht ⊢;rw [ht, hx]; exact ⟨rfl, rfl⟩
 · show txts ((lst 1 (Jdf ps)).out.takeWhile Ja2) = _
   rw [e0, Jmp];show remG (txts ws) = _;rw [ht]
theorem Jdx (c : Int) (w : World) (h0 : 0 <= c) (h1 : c <= 255) :
  Calls Tryz.prog 181 #[.int .u8 c] w fun e w' => e = .returned (.bool (Jc6 c)) /\ w = w' := by
 by_cases a : 97 <= c <;> by_cases b : c <= 122 <;> by_cases d : 48 <= c <;> by_cases f : c <= 57 <;> by_cases g : c = 46 <;> by_cases i : c = 95 <;> by_cases j : c = 45 <;> try omega
 all_goals
  go_enter Tryz.func181, Tryz.ntmps181;go_wp2;go_ret
  first
   | exact ⟨by rw [Jkl (by omega)]; rfl, rfl⟩
   | exact ⟨Jag (by rw [Jng (by omega)]; simp; omega), rfl⟩
theorem Jb5 (A : Option Addr) (n c : Nat) (ss : List ByteArray) (w : World) (hn : n <= maxLen) (hl : ss.length = n) (hs : ∀ s ∈ ss, s.size <= maxLen)
  (hr : 0 < n -> ∃ b off, A = some ⟨b, off, none⟩ /\ ∀ i (h : i < ss.length), w.cell? ⟨b, off + i, none⟩ = some (.string ss[i])) :
  Calls Tryz.prog 112 #[.slice A n c] w fun e w' => e = .returned (.bool (ss.all fun s => Jak s.toList)) /\ w = w' := by
 unfold maxLen at hn hs;go_enter Tryz.func112, Tryz.ntmps112;go_wp2;go_loop [8] (fun i => ∃ k : Nat, k <= n /\ i = .int .i64 k /\ ((ss.take k).all fun s => Jak s.toList) = true) (fun i => n - (intOf i).toNat)
 case atStart => exact ⟨0, Nat.zero_le _, rfl, rfl⟩
 case round =>
  obtain ⟨k, hk, rfl, hall⟩ := hrel;have HA := zI hall;clear hall;by_cases hlt : k < n
  · obtain ⟨b, off, rfl, hc⟩ := hr (by omega)
    have hcell := hc k (by omega);have hsz := hs ss[k] (List.getElem_mem _);have hts : Hid (ss.take (k + 1) = ss.take k ++ [ss[k]]) := List.take_succ_eq_append_getElem (by omega);clear hc hs;have hmem : ss[k] ∈ ss := List.getElem_mem _;generalize ss[k]'(by omega) = s at *;by_cases h1 : s.size < 1
    · have hf := Jho (fun s : ByteArray => Jak s.toList) ss s hmem (Jd9 s (.inl h1))
      have HF := zI hf;clear hf;go_wp2;go_ret;exact ⟨Jag HF.out.symm, rfl⟩
    · by_cases h2 : 15 < s.size
      · have hf := Jho (fun s : ByteArray => Jak s.toList) ss s hmem (Jd9 s (.inr h2))
        have HF := zI hf;clear hf;go_wp2;go_ret;exact ⟨Jag HF.out.symm, rfl⟩
      · go_wp2
        go_loop [22] (fun i => ∃ j : Nat, j <= s.size /\ i = .int .i64 j /\ Ja9 (s.toList.take j) = true) (fun i => s.size - (intOf i).toNat)
        case atStart => exact ⟨0, Nat.zero_le _, rfl, rfl⟩
        case round =>
         obtain ⟨j, hj, rfl, hpre⟩ := hrel;have HP := zI hpre;clear hpre;by_cases hjs : j < s.size
         · have hnext := zI (Jh5 s j hjs)
           have hu : s[j].toNat <= 255 := by have := s[j].toNat_lt; omega
           cases hb : Jc6 s[j].toNat
           · have HF := zI (Jho (fun s : ByteArray => Jak s.toList) ss s hmem (Jnh s (Jir s j hjs hb)))
             go_wp2_with (go_at_call 181; refine (Jdx _ _ (by omega) (by omega)).mono ?_; rintro e w' ⟨rfl, rfl⟩)
             go_ret;exact ⟨Jag HF.out.symm, rfl⟩
           · have HN : Hid (Ja9 (s.toList.take (j + 1)) = true) := by rw [hnext.out, HP.out, hb]; rfl
             go_wp2_with (go_at_call 181; refine (Jdx _ _ (by omega) (by omega)).mono ?_; rintro e w' ⟨rfl, rfl⟩)
             go_round
             case rel => exact ⟨j + 1, by omega, by go_num, HN.out⟩
             case measure => simp [intOf]; omega
         · have HV : Hid (Jak s.toList = true) := Jq1 s (by omega) (by omega) (by rw [<- HP.out, List.take_of_length_le (by rw [Jab]; omega)])
           go_wp2;go_round
           case rel => exact ⟨k + 1, by omega, by go_num, Jq2 (fun s : ByteArray => Jak s.toList) ss k s hts.out HA.out HV.out⟩
           case measure => simp [intOf]; omega
  · go_wp2
    go_ret;exact ⟨Jag (by rw [<- HA.out, List.take_of_length_le (by omega)]), rfl⟩
open Go.ChangeAt Go.ChangeShapes Go.Deep Go.WideShapes
def Jdg (t : Ti) : Bool := !Jak t.nm.toList || (decide (t.kp < 1) || (decide (1000000 < t.kp) || (decide (t.sh < 1) || (decide (8 < t.sh) || (decide (t.ev < 1) || decide (1000000 < t.ev))))))
def dupB (l : List Ti) (t : Ti) : Bool := l.any fun x => x.nm.toList == t.nm.toList
theorem J0o (l : List Ti) (x t : Ti) : dupB (l ++ [x]) t = (dupB l t || (x.nm.toList == t.nm.toList)) := by simp [dupB]
def Jor (o t : Ti) : Bool := decide (t.ev <= o.ev) || (!(t.ev.tmod o.ev == 0) || decide (t.kp < o.kp))
def Jcj (ts : List Ti) (i : Nat) : Bool := match ts[i]? with
 | none => false
 | some t => (Jdg t || dupB (ts.take i) t) || (if i = 0 then !(t.ev == 1) else match ts[i - 1]? with | none => false | some o => Jor o t)
def checkR (nm : List UInt8) (ts : List Ti) : Int × Int :=
 if (!Jak nm || (decide (ts.length < 1) || decide (5 < ts.length))) = true then (23, 0) else
 match (List.range ts.length).find? (Jcj ts) with
 | some i => (23, i + 1)
 | none => (0, 0)
theorem Jtw {n : Nat} {p : Nat -> Bool} {j : Nat} (hj : j < n) (h : p j = true) (ha : ∀ i, i < j -> p i = false) : (List.range n).find? p = some j := by
 rw [List.find?_range_eq_some];exact ⟨h, List.mem_range.2 hj, fun i hi => by rw [ha i hi]; rfl⟩
theorem J3j {n : Nat} {p : Nat -> Bool} (ha : ∀ i, i < n -> p i = false) : (List.range n).find? p = none := by
 rw [List.find?_eq_none];intro i hi;rw [ha i (List.mem_range.1 hi)]; simp
end Go.Proofs.YtalkkhafcfhglaaGreatDoor.Py
namespace Go.Proofs.YtalkkhafcfhglaaGreatDoor.Py
open Go.RowKit
theorem Jjs {d : Nat} (h : d < 10) : (UInt8.ofNat (48 + d)).toNat = 48 + d := by
 rw [UInt8.toNat_ofNat']; omega
theorem Jwi (u : Nat) : (Lib.decDigits u).all digB = true := by
 induction u using Nat.strongRecOn with
 | _ u ih =>
   by_cases h : u < 10
   · rw [Lib.decDigits, dif_pos h]
     simp [digB]; omega
   · rw [Lib.decDigits, dif_neg h, List.all_append, ih _ (by omega)]
     simp [digB]; omega
theorem J3k (u : Nat) : numN (Lib.decDigits u) = u := by
 induction u using Nat.strongRecOn with
 | _ u ih =>
   by_cases h : u < 10
   · rw [Lib.decDigits, dif_pos h]
     have := Jjs h;simp only [numN, List.foldl_cons, List.foldl_nil, this]; omega
   · rw [Lib.decDigits, dif_neg h, Je8, ih _ (by omega), Jjs (by omega)]; omega
theorem Jr3 (u : Nat) : Lib.decDigits u ≠ [] := by
 rw [Lib.decDigits]; split <;> simp
theorem J0p (u : Nat) (h1 : 1 <= u) : (Lib.decDigits u).head? ≠ some 48 := by
 induction u using Nat.strongRecOn with
 | _ u ih =>
   by_cases h : u < 10
   · rw [Lib.decDigits, dif_pos h]
     intro e;have e2 : UInt8.ofNat (48 + u) = 48 := (by simpa using e);have := congrArg UInt8.toNat e2;rw [Jjs h] at this;have h48 : (48 : UInt8).toNat = 48 := rfl;omega
   · rw [Lib.decDigits, dif_neg h]
     have := ih (u / 10) (by omega) (by omega);cases hh : Lib.decDigits (u / 10) with
     | nil => exact absurd hh (Jr3 _)
     | cons a r => rw [hh] at this; simpa using this
theorem Jmq {u : Nat} (h : u <= 1000000) : (Lib.decDigits u).length <= 7 := by
 rw [Lib.decDigits_length]
 have big : ∀ v, Lib.nDigits v = if v < 10 then 1 else Lib.nDigits (v / 10) + 1 := fun v => by
  by_cases hv : v < 10
  · rw [if_pos hv, Lib.nDigits_small hv]
  · rw [if_neg hv, Lib.nDigits_big hv]
 rw [big]; split <;> try omega
 rw [big]; split <;> try omega
 rw [big]; split <;> try omega
 rw [big]; split <;> try omega
 rw [big]; split <;> try omega
 rw [big]; split <;> try omega
 rw [big]; split <;> omega
theorem Jr4 {l : List UInt8} (h : l.all digB = true) : ∀ c ∈ l, c ≠ 45 /\ Jcq c.toNat = false /\ c ≠ 10 /\ c ≠ 32 /\ c ≠ 35 /\ okB c = true := by
 intro c hc;have hd := List.all_eq_true.1 h c hc;unfold digB at hd;simp only [Bool.and_eq_true, decide_eq_true_eq] at hd;refine ⟨?_, ?_, ?_, ?_, ?_, ?_⟩
 · rintro rfl; revert hd; decide
 · exact decide_eq_false (by omega)
 · rintro rfl; revert hd; decide
 · rintro rfl; revert hd; decide
 · rintro rfl; revert hd; decide
 · unfold okB Jfs
   rw [decide_eq_true (show 32 < (c.toNat : Int) /\ (c.toNat : Int) < 127 by omega)]; simp
theorem Jcn {n : Int} (h : 1 <= n) : Lib.itoa n = Lib.decDigits n.toNat := by unfold Lib.itoa; rw [if_neg (by omega)]
theorem Jmr {n : Int} (h : 1 <= n) (h2 : n <= 1000000) : numR (Lib.itoa n) = some n := by
 rw [Jcn h];have ha := Jwi n.toNat
 have hp : Lib.hasPrefix (Lib.decDigits n.toNat) [45] = false := by
  cases hh : Lib.decDigits n.toNat with
  | nil => exact absurd hh (Jr3 _)
  | cons a r =>
    have := (Jr4 ha a (by rw [hh]; simp)).1;show List.isPrefixOf [45] (a :: r) = false;simp [List.isPrefixOf];exact fun e => this e.symm
 have ht : Lib.trimPrefix (Lib.decDigits n.toNat) [45] = Lib.decDigits n.toNat := by unfold Lib.trimPrefix; rw [hp]; rfl
 have hb : Jet (Lib.decDigits n.toNat) false = false := by
  have h3 := Jmq (u := n.toNat) (by omega);have h4 : 0 < (Lib.decDigits n.toNat).length := List.length_pos_iff.2 (Jr3 _);have h5 := J0p n.toNat (by omega);unfold Jet;rw [decide_eq_false (show ¬ (Lib.decDigits n.toNat).length = 0 by omega), decide_eq_false (show ¬ 18 < (Lib.decDigits n.toNat).length by omega), beq_eq_false_iff_ne.2 h5]; rfl
 unfold numR;rw [ht, hp, hb, if_neg (by decide), if_pos ha, if_neg (by decide), J3k]
 congr 1; omega
def Jff (t : Ti) : List UInt8 :=
 Jgj ++ [32] ++ t.nm.toList ++ [32] ++ Jcc ++ [32] ++ Lib.itoa t.ev ++ [32] ++ Jev ++ [32] ++ Lib.itoa t.kp ++ [32] ++ Jbn ++ [32] ++ Lib.itoa t.sh ++ [10]
theorem Jwj (t : Ti) (r : List UInt8) : Jff t ++ r = Jgj ++ (32 :: (t.nm.toList ++ (32 :: (Jcc ++ (32 :: (Lib.itoa t.ev ++ (32 :: (Jev ++ (32 :: (Lib.itoa t.kp ++ (32 :: (Jbn ++ (32 :: (Lib.itoa t.sh ++ (10 :: r))))))))))))))) := by simp [Jff]
def printL (nm : List UInt8) (ts : List Ti) : List UInt8 := Jcu ++ (32 :: (nm ++ [10])) ++ ts.flatMap Jff
def SpG (g : List UInt8) : Prop := g = [32] \/ g = [32, 32] \/ g = [9] \/ g = [32, 9, 32]
def NlG (g : List UInt8) : Prop := g = [10] \/ g = [10, 10] \/ g = [32, 35, 32, 120, 32, 121, 10] \/ g = [10, 35, 32, 116, 105, 101, 114, 32, 122, 10]
inductive Exp : List UInt8 -> List UInt8 -> Prop
 | nil : Exp [] []
 | plain (c : UInt8) (a b : List UInt8) : c ≠ 32 -> c ≠ 10 -> Exp a b -> Exp (c :: a) (c :: b)
 | sp (g a b : List UInt8) : SpG g -> Exp a b -> Exp (32 :: a) (g ++ b)
 | nl (g a b : List UInt8) : NlG g -> Exp a b -> Exp (10 :: a) (g ++ b)
theorem Exp.refl : ∀ l, Exp l l
 | [] => .nil
 | c :: r => by
   by_cases h1 : c = 32
   · subst h1; exact .sp [32] r r (.inl rfl) (Exp.refl r)
   · by_cases h2 : c = 10
     · subst h2; exact .nl [10] r r (.inl rfl) (Exp.refl r)
     · exact .plain c r r h1 h2 (Exp.refl r)
theorem Exp.empty {b : List UInt8} (h : Exp [] b) : b = [] := by cases h; rfl
theorem Exp.word : ∀ (w : List UInt8) {r b : List UInt8}, (∀ c ∈ w, c ≠ 32 /\ c ≠ 10) -> Exp (w ++ r) b -> ∃ b', b = w ++ b' /\ Exp r b'
 | [], r, b, _, h => ⟨b, rfl, h⟩
 | c :: w, r, b, hw, h => by
   have hc := hw c (by simp);cases h with
   | plain _ _ b1 _ _ h1 =>
     obtain ⟨b', e, h2⟩ := Exp.word w (fun x hx => hw x (by simp [hx])) h1;exact ⟨b', by rw [e]; rfl, h2⟩
   | sp => exact absurd rfl hc.1
   | nl => exact absurd rfl hc.2
theorem Exp.space {r b : List UInt8} (h : Exp (32 :: r) b) : ∃ g b', b = g ++ b' /\ SpG g /\ Exp r b' := by
 cases h with
 | plain _ _ _ h1 => exact absurd rfl h1
 | sp g _ b' hg h1 => exact ⟨g, b', rfl, hg, h1⟩
theorem Exp.line {r b : List UInt8} (h : Exp (10 :: r) b) : ∃ g b', b = g ++ b' /\ NlG g /\ Exp r b' := by
 cases h with
 | plain _ _ _ _ h2 => exact absurd rfl h2
 | nl g _ b' hg h1 => exact ⟨g, b', rfl, hg, h1⟩
theorem SpG.gap {g : List UInt8} (h : SpG g) : Gap g := by
 rcases h with rfl | rfl | rfl | rfl <;> exact ⟨by decide, by decide⟩
theorem SpG.ok {g : List UInt8} (h : SpG g) : ∀ c ∈ g, c = 10 \/ okB c = true := by rcases h with rfl | rfl | rfl | rfl <;> decide
theorem NlG.ok {g : List UInt8} (h : NlG g) : ∀ c ∈ g, c = 10 \/ okB c = true := by rcases h with rfl | rfl | rfl | rfl <;> decide
theorem Exp.ok {a b : List UInt8} (h : Exp a b) : (∀ c ∈ a, c = 10 \/ okB c = true) -> ∀ c ∈ b, c = 10 \/ okB c = true := by
 induction h with
 | nil => exact fun h => h
 | plain x a b _ _ _ ih =>
   intro h c hc;rcases List.mem_cons.1 hc with rfl | hc
   · exact h _ (by simp)
   · exact ih (fun y hy => h y (by simp [hy])) c hc
 | sp g a b hg _ ih =>
   intro h c hc;rcases List.mem_append.1 hc with hc | hc
   · exact hg.ok c hc
   · exact ih (fun y hy => h y (by simp [hy])) c hc
 | nl g a b hg _ ih =>
   intro h c hc;rcases List.mem_append.1 hc with hc | hc
   · exact hg.ok c hc
   · exact ih (fun y hy => h y (by simp [hy])) c hc
structure Wrd (w : List UInt8) : Prop where
 plain : Jjr w
 sep : ∀ c ∈ w, c ≠ 32 /\ c ≠ 10
 head : w.head? ≠ some 35
 ok : ∀ c ∈ w, okB c = true
theorem Wrd.of {w : List UInt8} (h : w ≠ []) (h2 : ∀ c ∈ w, Jcq c.toNat = false /\ c ≠ 10 /\ c ≠ 32 /\ c ≠ 35 /\ okB c = true) : Wrd w :=
 ⟨⟨h, fun c hc => (h2 c hc).1⟩, fun c hc => ⟨(h2 c hc).2.2.1, (h2 c hc).2.1⟩, fun e => by
  cases w with
  | nil => exact h rfl
  | cons a r => simp at e; exact (h2 a (by simp)).2.2.2.1 e, fun c hc => (h2 c hc).2.2.2.2⟩
theorem Jhy : Wrd Jcu := Wrd.of (by decide) (by decide)
theorem Jms : Wrd Jgj := Wrd.of (by decide) (by decide)
theorem Jjt : Wrd Jcc := Wrd.of (by decide) (by decide)
theorem Jmt : Wrd Jev := Wrd.of (by decide) (by decide)
theorem Jhz : Wrd Jbn := Wrd.of (by decide) (by decide)
theorem Jel {n : Int} (h : 1 <= n) : Wrd (Lib.itoa n) := by
 rw [Jcn h];exact Wrd.of (Jr3 _) (fun c hc => (Jr4 (Jwi _) c hc).2)
theorem Jfu {l : List UInt8} (h : Jak l = true) : Wrd l := by
 unfold Jak Ja9 at h;simp only [Bool.and_eq_true, decide_eq_true_eq] at h;refine Wrd.of (fun e => by subst e; simp at h) (fun c hc => ?_);have hl := List.all_eq_true.1 h.2 c hc;unfold Jc6 at hl;have hl' := of_decide_eq_true hl;refine ⟨decide_eq_false (by omega), ?_, ?_, ?_, ?_⟩
 · rintro rfl; revert hl; decide
 · rintro rfl; revert hl; decide
 · rintro rfl; revert hl; decide
 · unfold okB Jfs
   rw [decide_eq_true (show 32 < (c.toNat : Int) /\ (c.toNat : Int) < 127 by omega)]; simp
theorem Jmu : ∀ (a b : List (List UInt8)), (∀ t ∈ a, t.head? ≠ some 35) -> remG (a ++ b) = a ++ remG b
 | [], _, _ => rfl
 | x :: r, b, h => by
   have hx : (x.head? != some 35) = true := bne_iff_ne.2 (h x (by simp));show List.takeWhile _ (x :: (r ++ b)) = _;rw [List.takeWhile_cons, if_pos hx];show x :: remG (r ++ b) = _;rw [Jmu r b (fun t ht => h t (by simp [ht]))]; rfl
theorem Jr5 {h b : List UInt8} (hh : NlG h) (ps : List (List UInt8 × List UInt8)) (w : List UInt8) (hp : ∀ p ∈ ps, Wrd p.1 /\ SpG p.2) (hw : Wrd w) :
  ∃ x z, Jao ((Jdf ps ++ w) ++ (h ++ b)) = x :: (z ++ Jao b) /\ Jfb x = ps.map Prod.fst ++ [w] /\ ∀ l ∈ z, Jfb l = [] := by
 have hline : ∀ c ∈ Jdf ps ++ w, c ≠ 10 := by
  intro c hc;rcases List.mem_append.1 hc with hc | hc
  · unfold Jdf at hc
    obtain ⟨p, hp1, hc⟩ := List.mem_flatMap.1 hc;rcases List.mem_append.1 hc with hc | hc
    · exact ((hp p hp1).1.sep c hc).2
    · have hg := (hp p hp1).2.gap.blank c hc
      rintro rfl; revert hg; decide
  · exact (hw.sep c hc).2
 have hpg : ∀ p ∈ ps, Jjr p.1 /\ Gap p.2 := fun p hq => ⟨(hp p hq).1.plain, (hp p hq).2.gap⟩
 have hheads : ∀ t ∈ ps.map Prod.fst ++ [w], t.head? ≠ some 35 := by
  intro t ht;rcases List.mem_append.1 ht with ht | ht
  · obtain ⟨p, hq, rfl⟩ := List.mem_map.1 ht
    exact (hp p hq).1.head
  · rw [List.mem_singleton.1 ht]; exact hw.head
 have hG : Jfb (Jdf ps ++ w) = ps.map Prod.fst ++ [w] := by
  rw [(Jk7 ps hpg w hw.plain).1];have := Jmu _ [] hheads;rw [List.append_nil] at this;rw [this]; simp [remG]
 have hno : ∀ l ∈ ([[]] : List (List UInt8)), Jfb l = [] := by decide
 rcases hh with rfl | rfl | rfl | rfl
 · exact ⟨_, [], by rw [show ([10] : List UInt8) ++ b = 10 :: b from rfl, Jbq _ _ hline]; rfl, hG, by simp⟩
 · refine ⟨_, [[]], ?_, hG, hno⟩
   rw [show ([10, 10] : List UInt8) ++ b = 10 :: 10 :: b from rfl, Jbq _ _ hline];rw [show (10 : UInt8) :: b = [] ++ 10 :: b from rfl, Jbq _ _ (by simp)]; rfl
 · refine ⟨(Jdf ps ++ w) ++ [32, 35, 32, 120, 32, 121], [], ?_, ?_, by simp⟩
   · rw [show (Jdf ps ++ w) ++ (([32, 35, 32, 120, 32, 121, 10] : List UInt8) ++ b) = ((Jdf ps ++ w) ++ [32, 35, 32, 120, 32, 121]) ++ 10 :: b from by simp]
     refine Jbq _ _ (fun c hc => ?_);rcases List.mem_append.1 hc with hc | hc
     · exact hline c hc
     · exact (by decide : ∀ c ∈ ([32, 35, 32, 120, 32, 121] : List UInt8), c ≠ 10) c hc
   · have e : (Jdf ps ++ w) ++ [32, 35, 32, 120, 32, 121] = Jdf (ps ++ [(w, [32]), ([35], [32]), ([120], [32])]) ++ [121] := by simp [Jdf]
     rw [e, (Jk7 _ (fun p hq => ?_) [121] ⟨by decide, by decide⟩).1]
     · have e3 : List.map Prod.fst (ps ++ [(w, [32]), (([35] : List UInt8), ([32] : List UInt8)), ([120], [32])]) ++ [[121]] = (List.map Prod.fst ps ++ [w]) ++ [[35], [120], [121]] := by simp
       rw [e3, Jmu _ _ hheads];simp [remG]
     · rcases List.mem_append.1 hq with hq | hq
       · exact hpg p hq
       · simp at hq
         rcases hq with rfl | rfl | rfl
         · exact ⟨hw.plain, (⟨by decide, by decide⟩ : Gap [32])⟩
         · exact ⟨(⟨by decide, by decide⟩ : Jjr [35]), (⟨by decide, by decide⟩ : Gap [32])⟩
         · exact ⟨(⟨by decide, by decide⟩ : Jjr [120]), (⟨by decide, by decide⟩ : Gap [32])⟩
 · refine ⟨_, [[35, 32, 116, 105, 101, 114, 32, 122]], ?_, hG, ?_⟩
   · rw [show (([10, 35, 32, 116, 105, 101, 114, 32, 122, 10] : List UInt8) ++ b) = 10 :: ([35, 32, 116, 105, 101, 114, 32, 122] ++ 10 :: b) from rfl, Jbq _ _ hline, Jbq _ _ (by decide)]; rfl
   · decide
theorem Jgk (nm : List UInt8) : ∀ (z L : List (List UInt8)) (n : Int) (acc : List Ti), (∀ l ∈ z, Jfb l = []) -> Jde nm n (z ++ L) acc = Jde nm (n + (z.length : Nat)) L acc
 | [], L, n, acc, _ => by simp
 | l :: r, L, n, acc, h => by
   show Jde nm n (l :: (r ++ L)) acc = _;rw [Jde, if_pos (h l (by simp)), Jgk nm r L (n + 1) acc (fun x hx => h x (by simp [hx]))]
   congr 1; simp; omega
structure _root_.Go.Proofs.YtalkkhafcfhglaaGreatDoor.Ti.Fine (t : Ti) : Prop where
 nm : Jak t.nm.toList = true
 ev : 1 <= t.ev /\ t.ev <= 1000000
 kp : 1 <= t.kp /\ t.kp <= 1000000
 sh : 1 <= t.sh /\ t.sh <= 8
theorem Jtx (t : Ti) (h : t.Fine) (n : Nat) (hn : n < 5) : Jcw [Jgj, t.nm.toList, Jcc, Lib.itoa t.ev, Jev, Lib.itoa t.kp, Jbn, Lib.itoa t.sh] n = true /\ Jmm [Jgj, t.nm.toList, Jcc, Lib.itoa t.ev, Jev, Lib.itoa t.kp, Jbn, Lib.itoa t.sh] = t := by
 have e1 := Jmr h.ev.1 h.ev.2;have e2 := Jmr h.kp.1 h.kp.2;have e3 := Jmr h.sh.1 (by have := h.sh.2; omega);constructor
 · unfold Jcw Jg6 txt
   simp [e1, e2, e3]; omega
 · unfold Jmm Jg7 txt
   simp [e1, e2, e3];rw [ByteArray.toList_eq]
theorem Jk8 (nm : List UInt8) : ∀ (ts : List Ti) (b : List UInt8) (n : Int) (acc : List Ti), (∀ t ∈ ts, t.Fine) -> acc.length + ts.length <= 5 -> Exp (ts.flatMap Jff) b -> Jde nm n (Jao b) acc = .good nm (acc ++ ts)
 | [], b, n, acc, _, _, h => by
   rw [Exp.empty h];show Jde nm n [[]] acc = _;rw [Jde, if_pos (by decide), Jde]; simp
 | t :: r, b, n, acc, hf, hl, h => by
   have ht := hf t (by simp);rw [List.flatMap_cons, Jwj] at h;obtain ⟨b1, e1_, h1_⟩ := Exp.word _ Jms.sep h;subst e1_;obtain ⟨g1, b2, e2_, G1, h2_⟩ := Exp.space h1_;subst e2_;obtain ⟨b3, e3_, h3_⟩ := Exp.word _ (Jfu ht.nm).sep h2_;subst e3_;obtain ⟨g2, b4, e4_, G2, h4_⟩ := Exp.space h3_;subst e4_;obtain ⟨b5, e5_, h5_⟩ := Exp.word _ Jjt.sep h4_;subst e5_;obtain ⟨g3, b6, e6_, G3, h6_⟩ := Exp.space h5_;subst e6_;obtain ⟨b7, e7_, h7_⟩ := Exp.word _ (Jel ht.ev.1).sep h6_;subst e7_;obtain ⟨g4, b8, e8_, G4, h8_⟩ := Exp.space h7_;subst e8_;obtain ⟨b9, e9_, h9_⟩ := Exp.word _ Jmt.sep h8_;subst e9_;obtain ⟨g5, b10, e10_, G5, h10_⟩ := Exp.space h9_;subst e10_;obtain ⟨b11, e11_, h11_⟩ := Exp.word _ (Jel ht.kp.1).sep h10_;subst e11_;obtain ⟨g6, b12, e12_, G6, h12_⟩ := Exp.space h11_;subst e12_;obtain ⟨b13, e13_, h13_⟩ := Exp.word _ Jhz.sep h12_;subst e13_;obtain ⟨g7, b14, e14_, G7, h14_⟩ := Exp.space h13_;subst e14_;obtain ⟨b15, e15_, h15_⟩ := Exp.word _ (Jel ht.sh.1).sep h14_;subst e15_;obtain ⟨g8, b16, e16_, G8, h16_⟩ := Exp.line h15_;subst e16_
   have key := Jr5 (b := b16) G8 [(Jgj, g1), (t.nm.toList, g2), (Jcc, g3), (Lib.itoa t.ev, g4), (Jev, g5), (Lib.itoa t.kp, g6), (Jbn, g7)] (Lib.itoa t.sh) (fun p hp => by
    simp only [List.mem_cons, List.not_mem_nil, or_false] at hp;rcases hp with rfl | rfl | rfl | rfl | rfl | rfl | rfl
    · exact ⟨Jms, G1⟩
    · exact ⟨Jfu ht.nm, G2⟩
    · exact ⟨Jjt, G3⟩
    · exact ⟨Jel ht.ev.1, G4⟩
    · exact ⟨Jmt, G5⟩
    · exact ⟨Jel ht.kp.1, G6⟩
    · exact ⟨Jhz, G7⟩) (Jel ht.sh.1)
   obtain ⟨x, z, e, hx, hz⟩ := key;rw [show Jgj ++ (g1 ++ (t.nm.toList ++ (g2 ++ (Jcc ++ (g3 ++ (Lib.itoa t.ev ++ (g4 ++ (Jev ++ (g5 ++ (Lib.itoa t.kp ++ (g6 ++ (Jbn ++ (g7 ++ (Lib.itoa t.sh ++ (g8 ++ b16))))))))))))))) = (Jdf [(Jgj, g1), (t.nm.toList, g2), (Jcc, g3), (Lib.itoa t.ev, g4), (Jev, g5), (Lib.itoa t.kp, g6), (Jbn, g7)] ++ Lib.itoa t.sh) ++ (g8 ++ b16) from by simp [Jdf], e];have hx' : Jfb x = [Jgj, t.nm.toList, Jcc, Lib.itoa t.ev, Jev, Lib.itoa t.kp, Jbn, Lib.itoa t.sh] := hx;simp only [List.length_cons] at hl;obtain ⟨t1, t2⟩ := Jtx t ht acc.length (by omega);rw [Jde, hx', if_neg (by simp), if_pos t1, t2, Jgk nm z _ _ _ hz, Jk8 nm r b16 _ _ (fun u hu => hf u (by simp [hu])) (by simp; omega) h16_]
   simp
theorem Jty (nm : List UInt8) (ts : List Ti) (b : List UInt8) (hn : Jak nm = true) (hf : ∀ t ∈ ts, t.Fine) (hl : ts.length <= 5) (h : Exp (printL nm ts) b) : Jk3 1 (Jao b) = .good nm ts := by
 unfold printL at h;simp only [List.append_assoc, List.cons_append, List.nil_append] at h;obtain ⟨b1, e1_, h1_⟩ := Exp.word _ Jhy.sep h;subst e1_;obtain ⟨g1, b2, e2_, G1, h2_⟩ := Exp.space h1_;subst e2_;obtain ⟨b3, e3_, h3_⟩ := Exp.word _ (Jfu hn).sep h2_;subst e3_;obtain ⟨g2, b4, e4_, G2, h4_⟩ := Exp.line h3_;subst e4_
 obtain ⟨x, z, e, hx, hz⟩ := Jr5 (b := b4) G2 [(Jcu, g1)] nm (fun p hp => by
  simp only [List.mem_cons, List.not_mem_nil, or_false] at hp;subst hp;exact ⟨Jhy, G1⟩) (Jfu hn)
 rw [show Jcu ++ (g1 ++ (nm ++ (g2 ++ b4))) = (Jdf [(Jcu, g1)] ++ nm) ++ (g2 ++ b4) from by simp [Jdf], e];have hx' : Jfb x = [Jcu, nm] := hx;have hh : Jeu [Jcu, nm] = true := by unfold Jeu txt; simp
 rw [Jk3, hx', if_neg (by simp), if_pos hh];show Jde nm _ _ _ = _;rw [Jgk nm z _ _ _ hz, Jk8 nm ts b4 _ [] hf (by simpa using hl) h4_]; rfl
theorem J0q (nm : List UInt8) (ts : List Ti) (hn : Jak nm = true) (hf : ∀ t ∈ ts, t.Fine) : ∀ c ∈ printL nm ts, c = 10 \/ okB c = true := by
 have s32 : okB 32 = true := by decide
 intro c hc;unfold printL at hc;simp only [List.mem_append, List.mem_cons, List.not_mem_nil, or_false, List.mem_flatMap] at hc;rcases hc with (hc | hc | hc | hc) | ⟨t, ht, hc⟩
 · exact .inr (Jhy.ok c hc)
 · subst hc; exact .inr s32
 · exact .inr ((Jfu hn).ok c hc)
 · exact .inl hc
 · have hf' := hf t ht
   unfold Jff at hc;simp only [List.mem_append, List.mem_cons, List.not_mem_nil, or_false, or_assoc] at hc;rcases hc with hc | hc | hc | hc | hc | hc | hc | hc | hc | hc | hc | hc | hc | hc | hc | hc
   · exact .inr (Jms.ok c hc)
   · subst hc; exact .inr s32
   · exact .inr ((Jfu hf'.nm).ok c hc)
   · subst hc; exact .inr s32
   · exact .inr (Jjt.ok c hc)
   · subst hc; exact .inr s32
   · exact .inr ((Jel hf'.ev.1).ok c hc)
   · subst hc; exact .inr s32
   · exact .inr (Jmt.ok c hc)
   · subst hc; exact .inr s32
   · exact .inr ((Jel hf'.kp.1).ok c hc)
   · subst hc; exact .inr s32
   · exact .inr (Jhz.ok c hc)
   · subst hc; exact .inr s32
   · exact .inr ((Jel hf'.sh.1).ok c hc)
   · exact .inl hc
theorem Jk9 (nm : List UInt8) (ts : List Ti) (s : ByteArray) (hs : s.size <= 4000) (hn : Jak nm = true) (hf : ∀ t ∈ ts, t.Fine) (hl : ts.length <= 5) (h : Exp (printL nm ts) s.toList) : Jdc s = .good nm ts := by
 rw [Jwh, if_neg (by omega), Jjp _ _ (h.ok (J0q nm ts hn hf)), if_neg (by decide), Jty nm ts _ hn hf hl h]
theorem check_fine {nm : List UInt8} {ts : List Ti} (h : checkR nm ts = (0, 0)) : Jak nm = true /\ 1 <= ts.length /\ ts.length <= 5 /\ (∀ t ∈ ts, t.Fine) /\ ∀ i, i < ts.length -> Jcj ts i = false := by
 unfold checkR at h;split at h
 · cases h
 · next hb =>
   simp only [Bool.or_eq_true, Bool.not_eq_true', decide_eq_true_eq, not_or] at hb;cases hfd : (List.range ts.length).find? (Jcj ts) with
   | some i => rw [hfd] at h; simp at h
   | none =>
     rw [List.find?_eq_none] at hfd;have hall : ∀ i, i < ts.length -> Jcj ts i = false := fun i hi => by simpa using hfd i (List.mem_range.2 hi)
     refine ⟨by simpa using hb.1, by omega, by omega, fun t ht => ?_, hall⟩;obtain ⟨i, hi, rfl⟩ := List.getElem_of_mem ht;have hbad := hall i hi;unfold Jcj at hbad;rw [List.getElem?_eq_getElem hi] at hbad;simp only [Bool.or_eq_false_iff] at hbad;have h1 := hbad.1.1;unfold Jdg at h1;simp only [Bool.or_eq_false_iff, decide_eq_false_iff_not, Bool.not_eq_false'] at h1;exact ⟨h1.1, by omega, by omega, by omega⟩
theorem print_len {nm : List UInt8} {ts : List Ti} (hn : Jak nm = true) (hf : ∀ t ∈ ts, t.Fine) (hl : ts.length <= 5) : (printL nm ts).length <= 400 := by
 have one : ∀ t : Ti, t.Fine -> (Jff t).length <= 65 := fun t h => by
  have hv := h.nm;unfold Jak at hv;simp only [Bool.and_eq_true, decide_eq_true_eq] at hv;have e1 := Jmq (u := t.ev.toNat) (by have := h.ev; omega);have e2 := Jmq (u := t.kp.toNat) (by have := h.kp; omega);have e3 := Jmq (u := t.sh.toNat) (by have := h.sh; omega);unfold Jff;rw [Jcn h.ev.1, Jcn h.kp.1, Jcn h.sh.1];simp [Jgj, Jcc, Jev, Jbn]; omega
 have all : ∀ l : List Ti, (∀ t ∈ l, t.Fine) -> (l.flatMap Jff).length <= l.length * 65 := fun l => by
  induction l with
  | nil => intro _; simp
  | cons t r ih =>
    intro h;have h1 := one t (h t (by simp));have h2 := ih (fun u hu => h u (by simp [hu]));rw [List.flatMap_cons, List.length_append, List.length_cons]; omega
 have hv := hn;unfold Jak at hv;simp only [Bool.and_eq_true, decide_eq_true_eq] at hv;have h1 := all ts hf
 have e : (printL nm ts).length = 8 + nm.length + (ts.flatMap Jff).length := by
  unfold printL; rw [List.length_append]; simp only [Jcu, List.length_append, List.length_cons, List.length_nil]; omega
 omega
end Go.Proofs.YtalkkhafcfhglaaGreatDoor.Py
