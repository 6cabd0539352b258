/-
  Several texts in one: WordLinesP, ShelfP, ShelfB.
-/
import Derived.Lib.SplitLaws
import Derived.Lib.IndexLaws
import Derived.Lib.IndexBytes
import Derived.Test.YtalkkhafcfhglaaGreatDoorQ15
set_option maxRecDepth 100000
set_option maxHeartbeats 4000000
namespace Go.Proofs.YtalkkhafcfhglaaGreatDoor.Py
open Go.RowKit
def cutW : Int -> List (List UInt8) -> List Wd
 | _, [] => []
 | n, l :: r => Jae n l ++ cutW (n + 1) r
def cutE : Int -> List (List UInt8) -> Int
 | _, [] => 0
 | n, l :: r => if l.all okB = true then cutE (n + 1) r else n
theorem Jjk : ∀ (a b : List (List UInt8)) (n : Int), cutW n (a ++ b) = cutW n a ++ cutW (n + a.length) b
 | [], b, n => by simp [cutW]
 | x :: r, b, n => by
   show Jae n x ++ cutW (n + 1) (r ++ b) = (Jae n x ++ cutW (n + 1) r) ++ _;rw [Jjk r b (n + 1), List.append_assoc];have e : n + 1 + (r.length : Int) = n + ((x :: r).length : Int) := by simp only [List.length_cons]; omega
   rw [e]
theorem Jwa : ∀ (a : List (List UInt8)) (x : List UInt8) (b : List (List UInt8)) (n : Int), (∀ l ∈ a, l.all okB = true) -> x.all okB = false -> cutE n (a ++ x :: b) = n + a.length
 | [], x, b, n, _, hx => by simp [cutE, hx]
 | y :: r, x, b, n, ha, hx => by
   show (if y.all okB = true then cutE (n + 1) (r ++ x :: b) else n) = _;rw [if_pos (ha y (by simp)), Jwa r x b (n + 1) (fun l hl => ha l (by simp [hl])) hx];simp only [List.length_cons]; omega
theorem Jog : ∀ (a : List (List UInt8)) (n : Int), (∀ l ∈ a, l.all okB = true) -> cutE n a = 0
 | [], _, _ => rfl
 | y :: r, n, ha => by
   show (if y.all okB = true then cutE (n + 1) r else n) = 0;rw [if_pos (ha y (by simp)), Jog r (n + 1) (fun l hl => ha l (by simp [hl]))]
theorem Jmk (n : Int) (l : List UInt8) : (Jae n l).length <= l.length := by
 have h1 := Jp9 n l;have h2 : (Jae n l).length <= (lst n l).out.length := (List.takeWhile_sublist _).length_le;omega
def Jjl (s : ByteArray) : List ByteArray := Lib.splitB ⟨#[10]⟩ 0 (Lib.countB s ⟨#[10]⟩) s
def Jbx (s : ByteArray) : List (List UInt8) := (Jjl s).map ByteArray.toList
def Jao : List UInt8 -> List (List UInt8)
 | [] => [[]]
 | c :: r => if c = 10 then [] :: Jao r else match Jao r with
   | [] => [[c]]
   | l :: ls => (c :: l) :: ls
theorem Jg3 : ∀ l : List UInt8, (∀ c ∈ l, c ≠ 10) -> Jao l = [l]
 | [], _ => rfl
 | c :: r, h => by
   unfold Jao;rw [if_neg (h c (by simp)), Jg3 r (fun x hx => h x (by simp [hx]))]
theorem Jbq : ∀ (a r : List UInt8), (∀ c ∈ a, c ≠ 10) -> Jao (a ++ 10 :: r) = a :: Jao r
 | [], r, _ => by show Jao (10 :: r) = _; conv => lhs; unfold Jao
                  rw [if_pos rfl]
 | c :: a, r, h => by
   show Jao (c :: (a ++ 10 :: r)) = _
   conv => lhs; unfold Jao
   rw [if_neg (h c (by simp)), Jbq a r (fun x hx => h x (by simp [hx]))]
theorem J0i : ∀ (k : Nat) (s : ByteArray), Lib.countB s ⟨#[10]⟩ = k -> (Lib.splitB ⟨#[10]⟩ 0 k s).map ByteArray.toList = Jao s.toList := by
 intro k
 induction k with
 | zero =>
   intro s hk;rw [Lib.splitB_zero];rcases Lib.indexB_cases s ⟨#[10]⟩ with h | ⟨i, h, _⟩
   · have h1 : Lib.indexByte s.data.toList 10 = -1 := by rw [<- Lib.index_one]; exact h
     simp only [List.map_cons, List.map_nil];rw [Jg3 s.toList (fun c hc => ?_)];rw [ByteArray.toList_eq] at hc;obtain ⟨j, hj, e⟩ := List.getElem_of_mem hc;rintro rfl;exact Lib.indexByte_none h1 j (by rw [List.getElem?_eq_getElem hj, e])
   · have := Lib.countB_hit s ⟨#[10]⟩ i (by decide) h
     omega
 | succ k ih =>
   intro s hk;rcases Lib.indexB_cases s ⟨#[10]⟩ with h | ⟨i, h, hi⟩
   · have := Lib.countB_miss s ⟨#[10]⟩ h
     omega
   · have h1 : Lib.indexByte s.data.toList 10 = i := by rw [<- Lib.index_one]; exact h
     obtain ⟨h2, h3⟩ := Lib.indexByte_some h1;have hc := Lib.countB_hit s ⟨#[10]⟩ i (by decide) h;rw [Lib.splitB_hit _ _ _ _ _ h, List.map_cons, ih _ (by have : (⟨#[10]⟩ : ByteArray).size = 1 := rfl; rw [this] at hc ⊢; omega)];have hlt : i < s.data.toList.length := (List.getElem?_eq_some_iff.1 h2).1
     have e : s.toList = s.data.toList.take i ++ 10 :: s.data.toList.drop (i + 1) := by
      rw [ByteArray.toList_eq];have h4 : s.data.toList[i] = 10 := (List.getElem?_eq_some_iff.1 h2).2;rw [<- h4, <- List.drop_eq_getElem_cons hlt, List.take_append_drop]
     rw [e, Jbq _ _ (fun c hc => by
      obtain ⟨j, hj, e2⟩ := List.getElem_of_mem hc;rw [List.length_take] at hj;rw [List.getElem_take] at e2;rintro rfl;exact h3 j (by omega) (by rw [List.getElem?_eq_getElem (by omega), e2]))]
     have hsz : (⟨#[10]⟩ : ByteArray).size = 1 := rfl;rw [hsz]
     congr 1
     · rw [Jft, List.drop_zero, ByteArray.toList_eq (⟨_⟩ : ByteArray), ByteArray.toList_eq s]; rfl
     · rw [Jft, ByteArray.toList_eq (⟨_⟩ : ByteArray), List.take_of_length_le (by rw [Jab]; omega), ByteArray.toList_eq s]
theorem Joh (s : ByteArray) : Jbx s = Jao s.toList := J0i _ s rfl
theorem Joi (s : ByteArray) : (Jjl s).length = Lib.countB s ⟨#[10]⟩ + 1 := Lib.splitB_all ⟨#[10]⟩ (by decide) 0 _ s rfl
theorem Jwb (s : ByteArray) : (Jjl s).length <= s.size + 1 := by rw [Joi]; have := Lib.countB_le ⟨#[10]⟩ (by decide) s.size s (Nat.le_refl _); omega
theorem Jia : ∀ (l : List UInt8), ∀ x ∈ Jao l, x.length <= l.length
 | [], x, h => by simp [Jao] at h; simp [h]
 | c :: r, x, h => by
   have ih := Jia r;unfold Jao at h;by_cases hc : c = 10
   · rw [if_pos hc] at h
     rcases List.mem_cons.1 h with rfl | h
     · simp
     · have := ih x h; simp; omega
   · rw [if_neg hc] at h
     cases hl : Jao r with
     | nil => rw [hl] at h; simp at h; subst h; simp
     | cons y ys =>
       rw [hl] at h ih;rcases List.mem_cons.1 h with rfl | h
       · have := ih y (by simp); simp; omega
       · have := ih x (by simp [h]); simp; omega
theorem Jkx (s : ByteArray) : ∀ l ∈ Jjl s, l.size <= s.size := by
 intro l hl;have := Jia s.toList l.toList (by rw [<- Joh]; exact List.mem_map.2 ⟨l, hl, rfl⟩)
 rwa [Jab, Jab] at this
end Go.Proofs.YtalkkhafcfhglaaGreatDoor.Py
namespace Go.Proofs
open Go.Shelf
def Tryz.lays169_ren : Go.Shelf.Ren := ⟨fun | 169 => 123 | n => n, fun | 70 => 223 | 9 => 9 | 0 => 0 | 72 => 226 | 37 => 224 | 127 => 258 | 3 => 3 | 5 => 5 | n => n, fun | n => n⟩
theorem Tryz.lays169 : Go.Proofs.Lays.n169 Tryz.prog Tryz.lays169_ren := {
 mixed := by kernel_rfl
 f169 := Tryz.func123.trans (congrArg some (by kernel_rfl))
 t0 := Tryz.underlying0
 a0 := Tryz.isAgg0
 z0 := Tryz.sizeOf0
 v0 := Tryz.zeroValue0
 t3 := Tryz.underlying3
 a3 := Tryz.isAgg3
 z3 := Tryz.sizeOf3
 v3 := Tryz.zeroValue3
 t9 := Tryz.underlying9
 a9 := Tryz.isAgg9
 z9 := Tryz.sizeOf9
 v9 := Tryz.zeroValue9
 t37 := Tryz.underlying224
 a37 := Tryz.isAgg224
 z37 := Tryz.sizeOf224
 v37 := Tryz.zeroValue224
 t70 := Tryz.underlying223
 a70 := Tryz.isAgg223
 z70 := Tryz.sizeOf223
 v70 := Tryz.zeroValue223
 t72 := Tryz.underlying226
 a72 := Tryz.isAgg226
 z72 := Tryz.sizeOf226
 v72 := Tryz.zeroValue226
 t127 := Tryz.underlying258
 a127 := Tryz.isAgg258
 z127 := Tryz.sizeOf258
 v127 := Tryz.zeroValue258 }
def Tryz.lays156_ren : Go.Shelf.Ren := ⟨fun | 156 => 248 | 165 => 120 | 166 => 121 | 169 => 123 | 240 => 189 | 241 => 190 | 276 => 239 | 277 => 240 | n => n, fun | 31 => 22 | 9 => 9 | 3 => 3 | 4 => 4 | 0 => 0 | 20 => 20 | 72 => 226 | 76 => 230 | 70 => 223 | 37 => 224 | 75 => 229 | 127 => 258 | 164 => 336 | 5 => 5 | 80 => 232 | n => n, fun | n => n⟩
theorem Tryz.lays156 : Go.Proofs.Lays.n156 Tryz.prog Tryz.lays156_ren := {
 mixed := by kernel_rfl
 f156 := Tryz.func248.trans (congrArg some (by kernel_rfl))
 f165 := Tryz.func120.trans (congrArg some (by kernel_rfl))
 f166 := Tryz.func121.trans (congrArg some (by kernel_rfl))
 f169 := Tryz.func123.trans (congrArg some (by kernel_rfl))
 f240 := Tryz.func189.trans (congrArg some (by kernel_rfl))
 f241 := Tryz.func190.trans (congrArg some (by kernel_rfl))
 f276 := Tryz.func239.trans (congrArg some (by kernel_rfl))
 f277 := Tryz.func240.trans (congrArg some (by kernel_rfl))
 t0 := Tryz.underlying0
 a0 := Tryz.isAgg0
 z0 := Tryz.sizeOf0
 v0 := Tryz.zeroValue0
 t3 := Tryz.underlying3
 a3 := Tryz.isAgg3
 z3 := Tryz.sizeOf3
 v3 := Tryz.zeroValue3
 t4 := Tryz.underlying4
 a4 := Tryz.isAgg4
 z4 := Tryz.sizeOf4
 v4 := Tryz.zeroValue4
 t9 := Tryz.underlying9
 a9 := Tryz.isAgg9
 z9 := Tryz.sizeOf9
 v9 := Tryz.zeroValue9
 t20 := Tryz.underlying20
 a20 := Tryz.isAgg20
 z20 := Tryz.sizeOf20
 v20 := Tryz.zeroValue20
 t31 := Tryz.underlying22
 a31 := Tryz.isAgg22
 z31 := Tryz.sizeOf22
 v31 := Tryz.zeroValue22
 t37 := Tryz.underlying224
 a37 := Tryz.isAgg224
 z37 := Tryz.sizeOf224
 v37 := Tryz.zeroValue224
 t70 := Tryz.underlying223
 a70 := Tryz.isAgg223
 z70 := Tryz.sizeOf223
 v70 := Tryz.zeroValue223
 t72 := Tryz.underlying226
 a72 := Tryz.isAgg226
 z72 := Tryz.sizeOf226
 v72 := Tryz.zeroValue226
 t75 := Tryz.underlying229
 a75 := Tryz.isAgg229
 z75 := Tryz.sizeOf229
 v75 := Tryz.zeroValue229
 t76 := Tryz.underlying230
 a76 := Tryz.isAgg230
 z76 := Tryz.sizeOf230
 v76 := Tryz.zeroValue230
 t127 := Tryz.underlying258
 a127 := Tryz.isAgg258
 z127 := Tryz.sizeOf258
 v127 := Tryz.zeroValue258
 t164 := Tryz.underlying336
 a164 := Tryz.isAgg336
 z164 := Tryz.sizeOf336
 v164 := Tryz.zeroValue336 }
def Tryz.lays103_ren : Go.Shelf.Ren := ⟨fun | 103 => 276 | 210 => 303 | 206 => 188 | n => n, fun | 9 => 9 | 4 => 4 | 24 => 233 | 3 => 3 | n => n, fun | n => n⟩
theorem Tryz.lays103 : Go.Proofs.Lays.n103 Tryz.prog Tryz.lays103_ren := {
 mixed := by kernel_rfl
 f103 := Tryz.func276.trans (congrArg some (by kernel_rfl))
 f206 := Tryz.func188.trans (congrArg some (by kernel_rfl))
 f210 := Tryz.func303.trans (congrArg some (by kernel_rfl))
 t3 := Tryz.underlying3
 a3 := Tryz.isAgg3
 z3 := Tryz.sizeOf3
 v3 := Tryz.zeroValue3
 t4 := Tryz.underlying4
 a4 := Tryz.isAgg4
 z4 := Tryz.sizeOf4
 v4 := Tryz.zeroValue4
 t9 := Tryz.underlying9
 a9 := Tryz.isAgg9
 z9 := Tryz.sizeOf9
 v9 := Tryz.zeroValue9
 t24 := Tryz.underlying233
 a24 := Tryz.isAgg233
 z24 := Tryz.sizeOf233
 v24 := Tryz.zeroValue233 }
def Tryz.laysM171_ren : Go.Shelf.Ren := ⟨fun | 171 => 279 | 243 => 304 | 246 => 321 | 283 => 328 | 284 => 329 | 285 => 330 | 286 => 331 | 129 => 268 | 317 => 334 | 318 => 335 | 319 => 336 | 320 => 337 | 337 => 340 | 338 => 341 | n => n, fun | 3 => 3 | 9 => 9 | 2 => 2 | 4 => 4 | 171 => 404 | 0 => 0 | 53 => 43 | 37 => 224 | 5 => 5 | 173 => 406 | 212 => 410 | 51 => 294 | 20 => 20 | 213 => 411 | 46 => 219 | 232 => 413 | 233 => 414 | n => n, fun | 17 => 3 | 18 => 4 | 19 => 5 | n => n⟩
theorem Tryz.laysM171 : Go.Proofs.LaysM.n171 Tryz.prog Tryz.laysM171_ren := {
 mixed := by kernel_rfl
 f129 := Tryz.func268.trans (congrArg some (by kernel_rfl))
 f171 := Tryz.func279.trans (congrArg some (by kernel_rfl))
 f243 := Tryz.func304.trans (congrArg some (by kernel_rfl))
 f246 := Tryz.func321.trans (congrArg some (by kernel_rfl))
 f283 := Tryz.func328.trans (congrArg some (by kernel_rfl))
 f284 := Tryz.func329.trans (congrArg some (by kernel_rfl))
 f285 := Tryz.func330.trans (congrArg some (by kernel_rfl))
 f286 := Tryz.func331.trans (congrArg some (by kernel_rfl))
 f317 := Tryz.func334.trans (congrArg some (by kernel_rfl))
 f318 := Tryz.func335.trans (congrArg some (by kernel_rfl))
 f319 := Tryz.func336.trans (congrArg some (by kernel_rfl))
 f320 := Tryz.func337.trans (congrArg some (by kernel_rfl))
 f337 := Tryz.func340.trans (congrArg some (by kernel_rfl))
 f338 := Tryz.func341.trans (congrArg some (by kernel_rfl))
 t0 := Tryz.underlying0
 a0 := Tryz.isAgg0
 z0 := Tryz.sizeOf0
 v0 := Tryz.zeroValue0
 t2 := Tryz.underlying2
 a2 := Tryz.isAgg2
 z2 := Tryz.sizeOf2
 v2 := Tryz.zeroValue2
 t3 := Tryz.underlying3
 a3 := Tryz.isAgg3
 z3 := Tryz.sizeOf3
 v3 := Tryz.zeroValue3
 t4 := Tryz.underlying4
 a4 := Tryz.isAgg4
 z4 := Tryz.sizeOf4
 v4 := Tryz.zeroValue4
 t5 := Tryz.underlying5
 a5 := Tryz.isAgg5
 z5 := Tryz.sizeOf5
 v5 := Tryz.zeroValue5
 t9 := Tryz.underlying9
 a9 := Tryz.isAgg9
 z9 := Tryz.sizeOf9
 v9 := Tryz.zeroValue9
 t20 := Tryz.underlying20
 a20 := Tryz.isAgg20
 z20 := Tryz.sizeOf20
 v20 := Tryz.zeroValue20
 t37 := Tryz.underlying224
 a37 := Tryz.isAgg224
 z37 := Tryz.sizeOf224
 v37 := Tryz.zeroValue224
 t46 := Tryz.underlying219
 a46 := Tryz.isAgg219
 z46 := Tryz.sizeOf219
 v46 := Tryz.zeroValue219
 t51 := Tryz.underlying294
 a51 := Tryz.isAgg294
 z51 := Tryz.sizeOf294
 v51 := Tryz.zeroValue294
 t53 := Tryz.underlying43
 a53 := Tryz.isAgg43
 z53 := Tryz.sizeOf43
 v53 := Tryz.zeroValue43
 t171 := Tryz.underlying404
 a171 := Tryz.isAgg404
 z171 := Tryz.sizeOf404
 v171 := Tryz.zeroValue404
 t173 := Tryz.underlying406
 a173 := Tryz.isAgg406
 z173 := Tryz.sizeOf406
 v173 := Tryz.zeroValue406
 t212 := Tryz.underlying410
 a212 := Tryz.isAgg410
 z212 := Tryz.sizeOf410
 v212 := Tryz.zeroValue410
 t213 := Tryz.underlying411
 a213 := Tryz.isAgg411
 z213 := Tryz.sizeOf411
 t232 := Tryz.underlying413
 a232 := Tryz.isAgg413
 z232 := Tryz.sizeOf413
 v232 := Tryz.zeroValue413
 t233 := Tryz.underlying414
 a233 := Tryz.isAgg414
 z233 := Tryz.sizeOf414
 v233 := Tryz.zeroValue414
 g17 := by kernel_rfl
 g18 := by kernel_rfl
 g19 := by kernel_rfl
 i0 := by kernel_rfl
 i2 := by kernel_rfl
 i3 := by kernel_rfl
 i4 := by kernel_rfl
 i5 := by kernel_rfl
 i9 := by kernel_rfl
 i20 := by kernel_rfl
 i37 := by kernel_rfl
 i46 := by kernel_rfl
 i51 := by kernel_rfl
 i53 := by kernel_rfl
 i171 := by kernel_rfl
 i173 := by kernel_rfl
 i212 := by kernel_rfl
 i232 := by kernel_rfl
 i233 := by kernel_rfl
 m17 := by kernel_rfl
 m18 := by kernel_rfl
 m19 := by kernel_rfl }
def Tryz.lays146_ren : Go.Shelf.Ren := ⟨fun | 146 => 177 | 221 => 233 | 268 => 273 | 138 => 274 | 143 => 275 | 195 => 299 | 197 => 300 | 218 => 301 | 219 => 302 | 260 => 316 | 217 => 317 | 225 => 318 | 224 => 319 | 267 => 320 | 266 => 326 | 314 => 327 | n => n, fun | 9 => 9 | 31 => 22 | 3 => 3 | 4 => 4 | 0 => 0 | 105 => 381 | 21 => 21 | 5 => 5 | 46 => 219 | 119 => 399 | 139 => 402 | 138 => 401 | 146 => 295 | 51 => 294 | n => n, fun | 1 => 0 | 3 => 1 | 4 => 2 | n => n⟩
theorem Tryz.lays146 : Go.Proofs.Lays.n146 Tryz.prog Tryz.lays146_ren := {
 mixed := by kernel_rfl
 f138 := Tryz.func274.trans (congrArg some (by kernel_rfl))
 f143 := Tryz.func275.trans (congrArg some (by kernel_rfl))
 f146 := Tryz.func177.trans (congrArg some (by kernel_rfl))
 f195 := Tryz.func299.trans (congrArg some (by kernel_rfl))
 f197 := Tryz.func300.trans (congrArg some (by kernel_rfl))
 f217 := Tryz.func317.trans (congrArg some (by kernel_rfl))
 f218 := Tryz.func301.trans (congrArg some (by kernel_rfl))
 f219 := Tryz.func302.trans (congrArg some (by kernel_rfl))
 f221 := Tryz.func233.trans (congrArg some (by kernel_rfl))
 f224 := Tryz.func319.trans (congrArg some (by kernel_rfl))
 f225 := Tryz.func318.trans (congrArg some (by kernel_rfl))
 f260 := Tryz.func316.trans (congrArg some (by kernel_rfl))
 f266 := Tryz.func326.trans (congrArg some (by kernel_rfl))
 f267 := Tryz.func320.trans (congrArg some (by kernel_rfl))
 f268 := Tryz.func273.trans (congrArg some (by kernel_rfl))
 f314 := Tryz.func327.trans (congrArg some (by kernel_rfl))
 t0 := Tryz.underlying0
 a0 := Tryz.isAgg0
 z0 := Tryz.sizeOf0
 v0 := Tryz.zeroValue0
 t3 := Tryz.underlying3
 a3 := Tryz.isAgg3
 z3 := Tryz.sizeOf3
 v3 := Tryz.zeroValue3
 t4 := Tryz.underlying4
 a4 := Tryz.isAgg4
 z4 := Tryz.sizeOf4
 v4 := Tryz.zeroValue4
 t5 := Tryz.underlying5
 a5 := Tryz.isAgg5
 z5 := Tryz.sizeOf5
 v5 := Tryz.zeroValue5
 t9 := Tryz.underlying9
 a9 := Tryz.isAgg9
 z9 := Tryz.sizeOf9
 v9 := Tryz.zeroValue9
 t21 := Tryz.underlying21
 a21 := Tryz.isAgg21
 z21 := Tryz.sizeOf21
 v21 := Tryz.zeroValue21
 t31 := Tryz.underlying22
 a31 := Tryz.isAgg22
 z31 := Tryz.sizeOf22
 v31 := Tryz.zeroValue22
 t46 := Tryz.underlying219
 a46 := Tryz.isAgg219
 z46 := Tryz.sizeOf219
 v46 := Tryz.zeroValue219
 t51 := Tryz.underlying294
 a51 := Tryz.isAgg294
 z51 := Tryz.sizeOf294
 v51 := Tryz.zeroValue294
 t105 := Tryz.underlying381
 a105 := Tryz.isAgg381
 z105 := Tryz.sizeOf381
 v105 := Tryz.zeroValue381
 t119 := Tryz.underlying399
 a119 := Tryz.isAgg399
 z119 := Tryz.sizeOf399
 t138 := Tryz.underlying401
 a138 := Tryz.isAgg401
 z138 := Tryz.sizeOf401
 v138 := Tryz.zeroValue401
 t139 := Tryz.underlying402
 a139 := Tryz.isAgg402
 z139 := Tryz.sizeOf402
 v139 := Tryz.zeroValue402
 t146 := Tryz.underlying295
 a146 := Tryz.isAgg295
 z146 := Tryz.sizeOf295
 v146 := Tryz.zeroValue295
 g1 := by kernel_rfl
 g3 := by kernel_rfl
 g4 := by kernel_rfl }
theorem Tryz.Builder_Extra_169 : Builder.Extra Tryz.prog Tryz.lays169_ren := {
 sizeBuilder := by kernel_rfl
 liesBuilder := by kernel_rfl
 t5 := Tryz.underlying5
 a5 := Tryz.isAgg5
 z5 := Tryz.sizeOf5
 v5 := Tryz.zeroValue5
 infoByte := by kernel_rfl
 cellsByte := by kernel_rfl
 sizeByte := by kernel_rfl
 neB5 := by decide }
theorem Tryz.Builder_Extra_156 : Builder.Extra Tryz.prog Tryz.lays156_ren := {
 sizeBuilder := by kernel_rfl
 liesBuilder := by kernel_rfl
 t5 := Tryz.underlying5
 a5 := Tryz.isAgg5
 z5 := Tryz.sizeOf5
 v5 := Tryz.zeroValue5
 infoByte := by kernel_rfl
 cellsByte := by kernel_rfl
 sizeByte := by kernel_rfl
 neB5 := by decide }
open Go.RowKit in
theorem Tryz.Builder_String_any (B b : Nat) (l : List UInt8) (w : World) (h : Lib.IsBuilder 226 5 B b (Lib.byteCells l) w) (hBw : B <= w.heap.size) :
  Calls Tryz.prog 123 #[.pointer (some ⟨b, 0, none⟩)] w fun e w' => e = .returned (.string ⟨l.toArray⟩) /\ Below B w w' := Any.Builder_String_any Tryz.lays169 Tryz.Builder_Extra_169 B b l w h hBw
open Go.RowKit in
theorem Tryz.strings_Join (bk o c : Nat) (xs : List ByteArray) (sep : ByteArray) (w : World) (hcells : ∀ (j : Nat) x, xs[j]? = some x -> w.cell? ⟨bk, o + j, none⟩ = some (.string x)) (hbk : bk < w.heap.size) (hN : xs.length <= 140737488355328) (hcap : xs.length <= c) (hlen : (Lib.join (xs.map (·.data.toList)) sep.data.toList).length <= 140737488355328) :
  Calls Tryz.prog 248 #[.slice (some ⟨bk, o, none⟩) xs.length c, .string sep] w fun e w' => e = .returned (.string ⟨(Lib.join (xs.map (·.data.toList)) sep.data.toList).toArray⟩) /\ Below w.heap.size w w' := Any.strings_Join Tryz.lays156 Tryz.Builder_Extra_156 bk o c xs sep w hcells hbk hN hcap hlen
open Go.RowKit in
theorem Tryz.strings_CutPrefix (s p : ByteArray) (w : World) :
  Calls Tryz.prog 276 #[.string s, .string p] w fun e w' => e = .returned (.tuple #[.string ⟨(Lib.trimPrefix s.data.toList p.data.toList).toArray⟩, .bool (Lib.hasPrefix s.data.toList p.data.toList)]) /\ w' = w := Any.strings_CutPrefix Tryz.lays103 s p w
open Go.RowKit Go.Sort Go.Lib in
theorem Tryz.strconv_Itoa (n : Int) (h0 : -9223372036854775808 <= n) (h1 : n <= 9223372036854775807) (w : World) (htab : Lib.TabIs Tryz.prog w "internal/strconv.uint64pow10" .u64 Lib.pow10Tab) :
  Calls Tryz.prog 279 #[.int .i64 n] w fun e w' => e = .returned (.string ⟨(Lib.itoa n).toArray⟩) /\ ∃ k os, w' = grow (w.drewN k) os := Any.strconv_Itoa Tryz.laysM171 n h0 h1 w htab
open Go.RowKit Go.Lib in
theorem Tryz.strings_Split (s sep : ByteArray) (m : Int) (w : World) (hs : s.size < 4294967281) (hm : w.cell? ⟨0, 0, none⟩ = some (.int .i64 m)) (h1 : 1 <= sep.size) :
  Calls Tryz.prog 177 #[.string s, .string sep] w fun e w' =>
   e = .returned (.slice (some ⟨w.heap.size, 0, none⟩) (Lib.countB s sep + 1) (Lib.countB s sep + 1)) /\ w' = w.alloc (.cells ((Lib.splitB sep 0 (Lib.countB s sep) s).map Value.string).toArray 9) := Any.strings_Split Tryz.lays146 (by kernel_rfl) s sep m w hs hm h1
def Tryz.lays160_ren : Go.Shelf.Ren := ⟨fun | 160 => 280 | 232 => 306 | 231 => 305 | 227 => 307 | 234 => 309 | 233 => 308 | 236 => 311 | 235 => 310 | 228 => 322 | 271 => 324 | 151 => 323 | 197 => 300 | 120 => 333 | 152 => 332 | 260 => 316 | 137 => 338 | 119 => 339 | 224 => 319 | 225 => 318 | 217 => 317 | 266 => 326 | n => n, fun | 9 => 9 | 4 => 4 | 3 => 3 | 5 => 5 | 117 => 387 | 116 => 386 | 0 => 0 | 124 => 390 | 21 => 21 | 105 => 381 | 46 => 219 | 119 => 399 | 139 => 402 | 138 => 401 | n => n, fun | 3 => 1 | 4 => 2 | n => n⟩
theorem Tryz.lays160 : Go.Proofs.Lays.n160 Tryz.prog Tryz.lays160_ren := {
 mixed := by kernel_rfl
 f119 := Tryz.func339.trans (congrArg some (by kernel_rfl))
 f120 := Tryz.func333.trans (congrArg some (by kernel_rfl))
 f137 := Tryz.func338.trans (congrArg some (by kernel_rfl))
 f151 := Tryz.func323.trans (congrArg some (by kernel_rfl))
 f152 := Tryz.func332.trans (congrArg some (by kernel_rfl))
 f160 := Tryz.func280.trans (congrArg some (by kernel_rfl))
 f197 := Tryz.func300.trans (congrArg some (by kernel_rfl))
 f217 := Tryz.func317.trans (congrArg some (by kernel_rfl))
 f224 := Tryz.func319.trans (congrArg some (by kernel_rfl))
 f225 := Tryz.func318.trans (congrArg some (by kernel_rfl))
 f227 := Tryz.func307.trans (congrArg some (by kernel_rfl))
 f228 := Tryz.func322.trans (congrArg some (by kernel_rfl))
 f231 := Tryz.func305.trans (congrArg some (by kernel_rfl))
 f232 := Tryz.func306.trans (congrArg some (by kernel_rfl))
 f233 := Tryz.func308.trans (congrArg some (by kernel_rfl))
 f234 := Tryz.func309.trans (congrArg some (by kernel_rfl))
 f235 := Tryz.func310.trans (congrArg some (by kernel_rfl))
 f236 := Tryz.func311.trans (congrArg some (by kernel_rfl))
 f260 := Tryz.func316.trans (congrArg some (by kernel_rfl))
 f266 := Tryz.func326.trans (congrArg some (by kernel_rfl))
 f271 := Tryz.func324.trans (congrArg some (by kernel_rfl))
 t0 := Tryz.underlying0
 a0 := Tryz.isAgg0
 z0 := Tryz.sizeOf0
 v0 := Tryz.zeroValue0
 t3 := Tryz.underlying3
 a3 := Tryz.isAgg3
 z3 := Tryz.sizeOf3
 v3 := Tryz.zeroValue3
 t4 := Tryz.underlying4
 a4 := Tryz.isAgg4
 z4 := Tryz.sizeOf4
 v4 := Tryz.zeroValue4
 t5 := Tryz.underlying5
 a5 := Tryz.isAgg5
 z5 := Tryz.sizeOf5
 v5 := Tryz.zeroValue5
 t9 := Tryz.underlying9
 a9 := Tryz.isAgg9
 z9 := Tryz.sizeOf9
 v9 := Tryz.zeroValue9
 t21 := Tryz.underlying21
 a21 := Tryz.isAgg21
 z21 := Tryz.sizeOf21
 v21 := Tryz.zeroValue21
 t46 := Tryz.underlying219
 a46 := Tryz.isAgg219
 z46 := Tryz.sizeOf219
 v46 := Tryz.zeroValue219
 t105 := Tryz.underlying381
 a105 := Tryz.isAgg381
 z105 := Tryz.sizeOf381
 v105 := Tryz.zeroValue381
 t116 := Tryz.underlying386
 a116 := Tryz.isAgg386
 z116 := Tryz.sizeOf386
 t117 := Tryz.underlying387
 a117 := Tryz.isAgg387
 z117 := Tryz.sizeOf387
 v117 := Tryz.zeroValue387
 t119 := Tryz.underlying399
 a119 := Tryz.isAgg399
 z119 := Tryz.sizeOf399
 t124 := Tryz.underlying390
 a124 := Tryz.isAgg390
 z124 := Tryz.sizeOf390
 v124 := Tryz.zeroValue390
 t138 := Tryz.underlying401
 a138 := Tryz.isAgg401
 z138 := Tryz.sizeOf401
 v138 := Tryz.zeroValue401
 t139 := Tryz.underlying402
 a139 := Tryz.isAgg402
 z139 := Tryz.sizeOf402
 v139 := Tryz.zeroValue402
 g3 := by kernel_rfl
 g4 := by kernel_rfl }
def Tryz.laysM316_ren : Go.Shelf.Ren := ⟨fun | 316 => 80 | n => n, fun | 9 => 9 | 3 => 3 | 4 => 4 | 37 => 224 | 0 => 0 | 127 => 258 | 5 => 5 | n => n, fun | n => n⟩
theorem Tryz.laysM316 : Go.Proofs.LaysM.n316 Tryz.prog Tryz.laysM316_ren := {
 mixed := by kernel_rfl
 f316 := Tryz.func80.trans (congrArg some (by kernel_rfl))
 t0 := Tryz.underlying0
 a0 := Tryz.isAgg0
 z0 := Tryz.sizeOf0
 v0 := Tryz.zeroValue0
 t3 := Tryz.underlying3
 a3 := Tryz.isAgg3
 z3 := Tryz.sizeOf3
 v3 := Tryz.zeroValue3
 t4 := Tryz.underlying4
 a4 := Tryz.isAgg4
 z4 := Tryz.sizeOf4
 v4 := Tryz.zeroValue4
 t9 := Tryz.underlying9
 a9 := Tryz.isAgg9
 z9 := Tryz.sizeOf9
 v9 := Tryz.zeroValue9
 t37 := Tryz.underlying224
 a37 := Tryz.isAgg224
 z37 := Tryz.sizeOf224
 v37 := Tryz.zeroValue224
 t127 := Tryz.underlying258
 a127 := Tryz.isAgg258
 z127 := Tryz.sizeOf258
 v127 := Tryz.zeroValue258
 t5 := Tryz.underlying5
 a5 := Tryz.isAgg5
 z5 := Tryz.sizeOf5
 v5 := Tryz.zeroValue5
 i0 := by kernel_rfl
 i3 := by kernel_rfl
 i4 := by kernel_rfl
 i5 := by kernel_rfl
 i9 := by kernel_rfl
 i37 := by kernel_rfl
 i127 := by kernel_rfl }
open Go.RowKit in
theorem Tryz.strings_Trim_one (s : ByteArray) (c : UInt8) (hc : c.toNat < 128) (w : World) (hs : s.size <= 9223372036854775807) :
  Calls Tryz.prog 280 #[.string s, .string ⟨#[c]⟩] w fun e w' => e = .returned (.string ⟨(Lib.trimB s.data.toList c).toArray⟩) /\ (w' = w \/ w' = w.drew) := Any.strings_Trim_one Tryz.lays160 s c hc w hs
open Go.RowKit in
theorem Tryz.stringslite_Clone (s : ByteArray) (w : World) (hlim : s.size <= 281474976710656) :
  Calls Tryz.prog 80 #[.string s] w fun e w' => e = .returned (.string s) /\ Below w.heap.size w w' := Any.stringslite_Clone Tryz.laysM316 s w hlim
end Go.Proofs
