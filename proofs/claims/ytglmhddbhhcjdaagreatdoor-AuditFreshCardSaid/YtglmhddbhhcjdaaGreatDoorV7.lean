/-
  Several texts in one: NameGrows, RowsK, Pool, PoolTake, PoolUsed, Chg, PolI.
-/
import Derived.Sort.Grow
import Derived.Sort.OwnSorted
import Derived.Maps.OwnOps
import Derived.Test.YtglmhddbhhcjdaaGreatDoorV4
import Derived.Test.YtglmhddbhhcjdaaGreatDoorV6
set_option maxRecDepth 100000
set_option linter.unusedSimpArgs false
set_option maxHeartbeats 4000000
namespace Go.Proofs.YtglmhddbhhcjdaaGreatDoor
open Go.RowKit Go.Sort
def Grew (w w':World):Prop:=∃q os,w'=grow (w.drewN q) os
theorem Grew.refl(w:World):Grew w w:=⟨0,#[],by simp[grow,World.drewN]⟩
theorem Grew.alloc{w w':World}(h:Grew w w')(o:Obj):Grew w (w'.alloc o):=by
 obtain⟨q,os,rfl⟩:=h;exact⟨q,os++#[o],by rw[alloc_eq_grow,grow_grow]⟩
theorem Grew.drew{w w':World}(h:Grew w w'):Grew w w'.drew:=by
 obtain⟨q,os,rfl⟩:=h;exact⟨q+1,os,rfl⟩
theorem Jm9(a b:ByteArray)(x y:Int)(r s t u v r' s' t' u' v':Value)(w:World):
  Cs 242 #[.agg #[a,(x:Int),r,s,t,u,v],.agg #[b,(y:Int),r',s',t',u',v']] w fun e w'=>e= .returned (cmpR a.toList x b.toList y:Int)/\Grew w w':=by
 go_enter Tryz.func242,Tryz.ntmps242;go_wp2
 go_region_held3 (fun w'=>w'.cell? ⟨w.heap.size,0,none⟩=some (.string a)/\w'.cell? ⟨w.heap.size,1,none⟩=some (.int .i64 x)/\w'.cell? ⟨w.heap.size+1,0,none⟩=some (.string b)/\w'.cell? ⟨w.heap.size+1,1,none⟩=some (.int .i64 y))
  (first | assumption | (simp[go_sem,qbz]))
  (first
    | (go_at_call 306;refine(Js7 _ _ _).mono ?_;rintro e w' ⟨rfl,rfl⟩)
    | (go_at_call 307;refine(Js8 _ _ _).mono ?_;rintro e w' ⟨rfl,rfl⟩)
    | (go_at_call 305;refine(J5k (cmpS a.toList b.toList) (cmpI x y) _ _ (by simp[go_sem]) (by simp[go_sem])).mono ?_;rintro e w' ⟨rfl,rfl⟩))
 go_wp2;go_ret;exact⟨rfl,by repeat (first | exact Grew.refl _ | refine Grew.drew ?_ | refine Grew.alloc ?_ _)⟩
open Go.Shelf
section
variable {α:Type} [Inhabited α] {cs:α ->List Value} {k:Nat}
theorem Jls(hk : ∀ x, (cs x).length=k)(l:List α):(flatK cs k l.toArray).toList=l.flatMap cs:=by
 apply qc9;intro t;by_cases z:t<l.length*k
 · have k0 : 0 < k := by rcases Nat.eq_zero_or_pos k with h | h
                         · subst h;simp at z
                         · exact h
   have v:t / k<l.length:=by rw[Nat.div_lt_iff_lt_mul k0];exact z
   have w:t % k<k:=Nat.mod_lt _ k0;have e:=Jd5 hk l (t / k) v (t % k) w;rw[Nat.div_add_mod' t k] at e;rw[e,qct];have u:=get_flatK cs k l.toArray t (by simpa using z);have y:t<(flatK cs k l.toArray).size:=by simpa using z
   rw[qc1 y,<- getElem!_pos _ t y,u];have s:l.toArray[t / k]! =l[t / k]:=by simp[v]
   rw[s,getElem!_pos _ _ (by rw[hk];exact w),qam (by rw[hk];exact w)]
 · have y:(l.flatMap cs).length<=t:=by rw[Jcf hk];omega
   rw[qbg (by simpa using z),qbg y]
theorem Jna(F cur:Array Value)(h:F.size<=cur.size):(putCells id 0 F cur).toList.take F.size=F.toList:=by
 apply qc9;intro j;by_cases z:j<F.size
 · rw[qc4 z,qct]
   simp[putCells,z,show j<cur.size by omega]
 · rw[List.getElem?_take_eq_none (by omega),qbg (by simp;omega)]
theorem Jo4{w:World}{g n:Nat}{os:Array Obj}{cur:Array Value}{e:TypeId}{fr:Nat×Nat}(d:Array α)(hb:w.heap[g]? =some (.cells cur e fr)):
  (sortWorldK cs k w g 0 n d os).heap[g]? =some (.cells (putCells id 0 (flatK cs k d) cur) e fr):=by
 have z:g<w.heap.size:=(qdd.1 hb).1;unfold sortWorldK putRowK;rw[heap_grow_old _ _ (by simpa using z)];simp[putRow,mapBlock,Sort.ahead,Array.getElem?_modify,hb,onCells]
theorem Jj0{w:World}{g n:Nat}{os:Array Obj}(d:Array α):w.grownBy (sortWorldK cs k w g 0 n d os) (some g):=by
 unfold sortWorldK putRowK;refine⟨rfl,rfl,rfl,by simp,fun j hj hne=> ?_⟩;rw[heap_grow_old _ _ (by simpa using hj)];have:g≠j:=fun e=>hne (by rw[e]);simp[putRow,mapBlock,Sort.ahead,Array.getElem?_modify,this]
theorem Jj1(hk:∀x,(cs x).length=k){w:World}{g:Nat}{cur:Array Value}{e:TypeId}{l:List α}(hb:w.heap[g]? =some (.cells cur e (0,0)))(ht:cur.toList.take (l.length*k)=l.flatMap cs):HoldsK cs k w g 0 l.toArray:=by
 intro j z;have y:j<l.length*k:=by simpa using z
 refine⟨?_,by simp[World.frozen?,hb]⟩;have v:(cur.toList.take (l.length*k))[j]? =(flatK cs k l.toArray).toList[j]? :=by rw[ht,Jls hk]
 rw[qc4 y,qct,qct] at v;simp only[World.cell?,hb,qa9];simp only[Option.isSome_none,Bool.false_eq_true,if_false];rw[v,qc1 z,<- getElem!_pos _ j z];rfl
theorem Jj2(hk:∀x,(cs x).length=k){w:World}{base g cap n m:Nat}{e:TypeId}{os:Array Obj}{cur:Array Value}{l:List α}(hl:l.length=m)(hbase:base<=g)(hb:w.heap[g]? =some (.cells cur e (0,0)))(h1:m<=cap)(h2:cap<=maxLen)(h3:cur.size=cap*k):
  (sortWorldK cs k w g 0 n l.toArray os).ownsRow base e k (.slice (some ⟨g,0,none⟩) m cap) m (l.flatMap cs):=
 ⟨by rw[Jcf hk,hl],.inr ⟨g,cap,_,rfl,hbase,Jo4 _ hb,h1,h2,by simp[putCells,h3],by
  have:=Jna (flatK cs k l.toArray) cur (by rw[size_flatK,h3];simp;rw[hl];exact Nat.mul_le_mul_right _ h1);rw[size_flatK] at this;simp only[List.size_toArray,hl] at this;rw[this,Jls hk]⟩⟩
end
end Go.Proofs.YtglmhddbhhcjdaaGreatDoor
namespace Go.Proofs.YtglmhddbhhcjdaaGreatDoor.Led
open Go.RowKit Go.Maps
theorem Jaj{a b:Bool}(h:a=b):Ending.returned a= .returned b:=by rw[h]
theorem Jby{k:IntKind}{a b:Int}(h:a=b):Ending.returned (.int k a)= .returned (.int k b):=by rw[h]
theorem wf_i64{z:Int}(h: -9223372036854775808<=z/\z<=9223372036854775807):(Lit.int .i64 z).wf=true:=by
 have:IntKind.i64.min= -9223372036854775808/\IntKind.i64.max=9223372036854775807:=by decide
 simp[Lit.wf,this.1,this.2,h.1,h.2]
theorem Jj3(w:World):(zeroValue 234).run Tryz.prog w= .ok (.agg #[]) w:=by kernel_rfl
def Jnb (o:Option Obj) (m:Nat) (from_ n:Int):Prop:=∃ (tl:List Value) (T:TypeId),o=some (.cells ⟨(from_:Int):: (n:Int):: .map (some m)::tl⟩ T (0,0))
theorem Jnb.keep{o o':Option Obj}{m:Nat}{f n:Int}(h:Jnb o m f n)(e:o'=o):Jnb o' m f n:=e ▸ h
structure Jax (w:World) (g m:Nat) (from_ n:Int) (us:List Int):Prop where
 blk:Jnb w.heap[g]? m from_ n
 set:Jbm w m us
 rng:0<=from_/\from_<=9223372036854775807/\0<=n/\n<=4096/\(n=0\/from_<=4096)
 ins:∀z∈us,from_<=z/\z<from_+n
theorem Jax.lt{w:World}{g m:Nat}{f n:Int}{us:List Int}(h:Jax w g m f n us):g<w.heap.size:=by obtain⟨_,_,e⟩:=h.blk;exact qb2 e
theorem Jax.ne{w:World}{g m:Nat}{f n:Int}{us:List Int}(h:Jax w g m f n us):g≠m:=by
 intro e;obtain⟨es,c,z,_⟩:=h.set.own;obtain⟨_,_,this⟩:=h.blk;rw[e,z] at this;cases this
theorem Jax.cells{w:World}{g m:Nat}{f n:Int}{us:List Int}(h:Jax w g m f n us):w.cell? ⟨g,0,none⟩=some (.int .i64 f)/\w.cell? ⟨g,1,none⟩=some (.int .i64 n)/\w.cell? ⟨g,2,none⟩=some (.map (some m)):=by
 obtain⟨_,_,e⟩:=h.blk;exact⟨qb1 w g 0 _ _ _ e,qb1 w g 1 _ _ _ e,qb1 w g 2 _ _ _ e⟩
theorem Jax.below{w w':World}{g m:Nat}{f n:Int}{us:List Int}(h:Jax w g m f n us)(hb:Below w.heap.size w w'):Jax w' g m f n us:=
 ⟨h.blk.keep (hb.block g h.lt),h.set.below hb h.set.lt,h.rng,h.ins⟩
theorem Jax.far{w w':World}{g m:Nat}{f n:Int}{us:List Int}{row:Option Nat}(h:Jax w g m f n us)(hg:w.grownBy w' row)(h1:some g≠row)(h2:some m≠row):Jax w' g m f n us:=
 ⟨h.blk.keep (hg.block g h.lt h1),h.set.grown hg h2,h.rng,h.ins⟩
theorem Jgc:∀ {l:List Int} {a b:Int},Rising l ->a<=b ->(∀z∈l,a<=z/\z<b) ->(l.length:Int)<=b - a
 | [],a,b,_,hab,_=>by simp;omega
 | y::r,a,b,h,_,hi=>by
   unfold Rising at h;rw[qa8] at h;have x:=hi y (by simp);have:=Jgc (l:=r) (a:=y+1) (b:=b) h.2 (by omega) (fun z hz=>⟨by have:=h.1 z hz;omega,(hi z (by simp[hz])).2⟩);simp only[qa3];omega
theorem Jax.size_le{w:World}{g m:Nat}{f n:Int}{us:List Int}(h:Jax w g m f n us):(us.length:Int)<=n:=by
 have:=Jgc h.set.rising (a:=f) (b:=f+n) (by have:=h.rng;omega) h.ins;omega
theorem Jnc(g m:Nat)(f n:Int)(us:List Int)(z:Int)(w:World)(h:Jax w g m f n us)(hz:(Lit.int .i64 z).wf=true):
  Cs 391 #[g,(z:Int)] w (RB w (decide (z∈us))):=by
 obtain⟨c0,c1,c2⟩:=h.cells;have y:=h.set.own;go_enter Tryz.func391,Tryz.ntmps391;go_wp2_with (at_lookup;refine wpList_lookup_own_unit _ rfl _ _ 233 rfl 3 234 Jcp Tryz.underlying233 (Jj3 _) m us.length (setD us) rfl y _ _ rfl (keyOf_int_mk Tryz.underlying3 hz) ?_)
 go_ret;exact⟨Jaj (Jm7 us z),(qaa _ _).alloc (qab _) _⟩
theorem Jnd(g m:Nat)(f n:Int)(us:List Int)(w:World)(h:Jax w g m f n us):
  Cs 340 #[g] w (RB w (n - us.length:Int)):=by
 obtain⟨c0,c1,c2⟩:=h.cells
 have z:∀q ty,(Builtin.len_ #[233] ty #[.map (some m)]).run Tryz.prog (w.drewN q)= .ok (us.length:Int) (w.drewN q):=fun q ty=>by
  have y:(w.drewN q).ownsMap Tryz.prog 3 (unitElem (H:=Unit)) m us.length (setD us):=h.set.own;rw[y.len Tryz.underlying233 ty,Jhj]
 have x:=h.size_le;obtain⟨_,_,v,u,_⟩:=h.rng;go_enter Tryz.func340,Tryz.ntmps340;go_wp2;go_quiet (fail)
 go_wp2;go_ret;exact⟨rfl,below_drewN (qaa _ _) _⟩
def J59 (from_ n:Int) (w:World) (e:Ending) (w':World):Prop:=
 ∃g m f k,e= .returned (g:Nat)/\Jax w' g m f k []/\Below w.heap.size w w'/\w.heap.size<=g/\w.heap.size<=m/\
  f=max from_ 0/\k=if from_<0\/4096<from_\/n<0 then 0 else min n 4096
theorem J8z(w:World)(f k:Int)(h:0<=f/\f<=9223372036854775807/\0<=k/\k<=4096/\(k=0\/f<=4096)):
  Jax ((w.alloc (.map #[] 0)).alloc (.cells #[(f:Int),(k:Int),.map (some w.heap.size)] 336)) (w.heap.size+1) w.heap.size f k []:=
 ⟨⟨[],_,by have:=qcg (w.alloc (.map #[] 0)) (.cells #[(f:Int),(k:Int),.map (some w.heap.size)] 336);simpa using this⟩,(Jbm.new w).alloc _,h,by simp⟩
theorem J6a(from_ n:Int)(w:World)(hf: -9223372036854775808<=from_/\from_<=9223372036854775807):
  Cs 244 #[(from_:Int),(n:Int)] w (J59 from_ n w):=by
 have z:=@run_makeMap Tryz.prog;obtain⟨y,x⟩:=hf;go_enter Tryz.func244,Tryz.ntmps244;go_wp2
 all_goals
  go_ret;refine⟨_,_,_,_,rfl,J8z w _ _ ?_,((qaa _ _).alloc (qab _) _).alloc (by simp) _,by simp,by simp,?_,?_⟩
  · omega
  · omega
  · split<;>omega
def insAll (us:List Int) (zs:List Int):List Int:=zs.foldl (fun u z=>ins z u) us
theorem Jg3(us zs:List Int)(z:Int):insAll us (zs++[z])=ins z (insAll us zs):=by simp[insAll,qb0]
theorem mem_insAll{x:Int}:∀ {zs us:List Int},x∈insAll us zs↔x∈us\/x∈zs
 | [],us=>by simp[insAll]
 | z::r,us=>by
   show x∈insAll (ins z us) r↔_;rw[mem_insAll (zs:=r),Jg2];simp;constructor
   · rintro((h | h) | h)<;>simp[h]
   · rintro(h | h | h)<;>simp[h]
theorem Jdd:∀ {zs us:List Int},Rising us ->Rising (insAll us zs)
 | [],_,h=>h
 | _::r,_,h=>Jdd (zs:=r) (Jco h)
theorem Jfl{w w':World}{k:IntKind}{A:Option Addr}{n:Nat}{zs:List Int}{m:Nat}(h:Ints w k A n zs)(hg:w.grownBy w' (some m))(hm:∀o,w.cell? ⟨m,o,none⟩=none):Ints w' k A n zs:=
 ⟨⟨fun hne=>by
  obtain⟨b,off,e,z,v⟩:=h.sl.at_ hne
  have y:b≠m:=by
   rintro rfl;obtain⟨u,r,x⟩:=List.exists_cons_of_ne_nil hne;have:=v 0 u (by rw[x];rfl);rw[hm] at this;cases this
  exact⟨b,off,e,qar z hg.size,fun j u x=>hg.cell (a:=⟨b,off+j,none⟩) (v j u x) (fun e=>y (by injection e))⟩⟩,h.len,h.n_le,h.wf⟩
theorem Jbm.nocell{w:World}{b:Nat}{us:List Int}(h:Jbm w b us)(o:Nat):w.cell? ⟨b,o,none⟩=none:=by
 obtain⟨es,c,z,_⟩:=h.own;simp[World.cell?,z]
theorem Jas{a b c:World}{row:Option Nat}(h:a.grownBy b row)(k:b.grownBy c row):a.grownBy c row:=
 ⟨k.os.trans h.os,k.tape.trans h.tape,k.output.trans h.output,qat h.size k.size,fun i hi hne=>(k.block i (qar hi h.size) hne).trans (h.block i hi hne)⟩
theorem Jaa{a b:World}(h:Below a.heap.size a b)(row:Option Nat):a.grownBy b row:=⟨h.os,h.tape,h.output,h.size,fun i hi _=>h.block i hi⟩
theorem J6b(g m:Nat)(f n:Int)(us:List Int)(A:Option Addr)(k c:Nat)(zs:List Int)(w:World)(h:Jax w g m f n us)(hz:Ints w .i64 A k zs)(hin:∀z∈zs,f<=z/\z<f+n):
  Cs 392 #[g,.slice A k c] w fun e w'=>e= .returned (.tuple #[])/\Jax w' g m f n (insAll us zs)/\w.grownBy w' (some m):=by
 have d:=hz.n_le;have l:=zI hz.len;unfold maxLen at d;go_enter Tryz.func392,Tryz.ntmps392;go_wp2;go_loopw [8] (fun i wr=>∃j:Nat,j<=k/\i= .int .i64 j/\Jax wr g m f n (insAll us (zs.take j))/\w.grownBy wr (some m)) (fun i _=>k - (intOf i).toNat)
 case atStart=>exact⟨0,qaq _,rfl,h,qb8 _ _⟩
 case round=>
  obtain⟨j,Y,rfl,v,u⟩:=hrel;by_cases r:j<k
  · have K:j<zs.length:=by rw[l.out];exact r
    obtain⟨b,off,rfl,W,V⟩:=(Jfl hz u h.set.nocell).get K;obtain⟨c0,c1,c2⟩:=v.cells;have s:=v.set.own;have q:=hz.wf _ (qal K);have a:=v.size_le;obtain⟨_,_,_,p,_⟩:=v.rng;have Z:=zI (show insAll us (zs.take (j+1))=ins zs[j] (insAll us (zs.take j)) from by rw[qak K,Jg3]);go_wp2_with (at_mapUpdate;refine wpList_mapUpdate_own _ rfl _ _ _ 233 rfl 3 234 Jcp Tryz.underlying233 _ m _ (setD (insAll us (zs.take j))) rfl s (by unfold maxLen;omega) _ _ _ rfl rfl (keyOf_int_mk Tryz.underlying3 q) _ [] unitElem_mk ?_;intro w1 y x)
    rw[Jm8 _ _ v.set.rising] at y
    have o:Jax w1 g m f n (insAll us (zs.take (j+1))):=by
     rw[Z.out]
     exact⟨v.blk.keep (x.block g v.lt (fun e=>v.ne (by injection e))),Jbm.of_own y (Jco v.set.rising),v.rng,fun z t=>by
      rcases Jg2.1 t with rfl | t
      · exact hin _ (qal K)
      · exact v.ins z t⟩
    clear y;go_wp2;go_roundw
    case rel=>exact⟨j+1,by omega,by go_num,o,Jas u x⟩
    case measure=>simp[intOf];omega
  · go_wp2
    go_end0
    rw[qao (by rw[l.out];omega)] at v;exact⟨rfl,v,u⟩
open Go.Shelf Go.Sort
theorem J80(q:Nat):AnyZI.SortsIn Tryz.prog Tryz.sortedA_ren Fence.wide q:=
 ⟨fun blk off cap ss W hH hblk hsz=>callsIn_wide.2 (AnyM.slices_Sort_int Tryz.sortA blk off cap ss W hH hblk hsz),
  fun p cap W=>callsIn_wide.2 (AnyM.slices_Sort_int_none Tryz.sortA p cap W)⟩
theorem Jo5(us:List Int):intKeys (setD (H:=Unit) us)=us:=by
 unfold setD intKeys;simp only[qch]
 conv=>rhs;rw[<- List.map_id us]
 apply qcs;intro x _;rfl
theorem sorted_perm{us ss:List Int}(hr:Rising us)(hp:ss.Perm us):ss.mergeSort (fun x y=>decide (x<=y))=us:=by
 have w:(ss.mergeSort (fun x y=>decide (x<=y))).Perm us:=(List.mergeSort_perm _ _).trans hp;have v:=List.pairwise_mergeSort (le:=fun x y:Int=>decide (x<=y)) (fun a b c w v=>by simp at*;omega) (fun a b=>by simp;omega) ss;refine Jdh ?_ hr (fun x=>w.mem_iff);have s:(ss.mergeSort (fun x y=>decide (x<=y))).Nodup:=w.symm.nodup hr.nodup;unfold Rising;rw[List.pairwise_iff_getElem] at v ⊢;intro i j u t z;have a:=v i j u t z;have b:=(List.pairwise_iff_getElem.1 s) i j u t z;simp at a;omega
end Go.Proofs.YtglmhddbhhcjdaaGreatDoor.Led
namespace Go.Proofs.YtglmhddbhhcjdaaGreatDoor
open Go.RowKit
structure Chg (F:Nat ->Prop) (w w':World):Prop where
 os:w'.os=w.os
 tape:w'.tape=w.tape
 output:w'.output=w.output
 size:w.heap.size<=w'.heap.size
 block:∀b,b<w.heap.size -> ¬ F b ->w'.heap[b]? =w.heap[b]?
section
variable {F G:Nat ->Prop} {w w1 w':World}
theorem Chg.refl(F:Nat ->Prop)(w:World):Chg F w w:=⟨rfl,rfl,rfl,qab _,fun _ _ _=>rfl⟩
theorem Chg.of_below(h:Below w.heap.size w w'):Chg F w w':=⟨h.os,h.tape,h.output,h.size,fun b hb _=>h.block b hb⟩
theorem Chg.of_grown{row:Option Nat}(h:w.grownBy w' row)(hF:∀b,row=some b ->F b):Chg F w w':=
 ⟨h.os,h.tape,h.output,h.size,fun b hb hn=>h.block b hb (fun e=>hn (hF b e.symm))⟩
theorem Chg.mono(h:Chg F w w')(hF:∀b,b<w.heap.size ->F b ->G b):Chg G w w':=⟨h.os,h.tape,h.output,h.size,fun b hb hn=>h.block b hb (fun hf=>hn (hF b hb hf))⟩
theorem Chg.trans(h:Chg F w w1)(k:Chg G w1 w')(hG:∀b,G b ->F b\/w.heap.size<=b):Chg F w w':=
 ⟨k.os.trans h.os,k.tape.trans h.tape,k.output.trans h.output,qat h.size k.size,fun b hb hn=>
  (k.block b (qar hb h.size) (fun hg=>by rcases hG b hg with z | z;exact hn z;omega)).trans (h.block b hb hn)⟩
theorem Chg.then_below(h:Chg F w w1)(k:Below w1.heap.size w1 w'):Chg F w w':=
 ⟨k.os.trans h.os,k.tape.trans h.tape,k.output.trans h.output,qat h.size k.size,fun b hb hn=>(k.block b (qar hb h.size)).trans (h.block b hb hn)⟩
theorem Chg.after_below(h:Below w.heap.size w w1)(k:Chg G w1 w')(hG:∀b,G b ->F b\/w.heap.size<=b):Chg F w w':=(Chg.of_below h).trans k hG
theorem Chg.set(w:World)(p:Addr)(u:Value)(hF:F p.block):Chg F w (w.setCell p u):=
 ⟨rfl,rfl,rfl,Nat.le_of_eq (World.size_setCell w p u).symm,fun b _ hn=>qdh _ _ _ b (fun e=>hn (by rw[e];exact hF))⟩
theorem Chg.below{B:Nat}(h:Chg F w w')(hF:∀b,F b ->B<=b)(hB:B<=w.heap.size):Below B w w':=
 ⟨h.os,h.tape,h.output,h.size,fun b hb=>h.block b (by omega) (fun hf=>by have:=hF b hf;omega)⟩
theorem Chg.none(h:Chg (fun _=>False) w w'):Below w.heap.size w w':=⟨h.os,h.tape,h.output,h.size,fun b hb=>h.block b hb (fun f=>f)⟩
theorem Chg.cell(h:Chg F w w'){p:Addr}(hp:p.block<w.heap.size)(hn: ¬ F p.block):w'.cell? p=w.cell? p:=qbi (w:=w) (h.block p.block hp hn)
theorem Bx.chg{g:Nat}{T:TypeId}{cs:Array Value}(h:Bx w g T cs)(hc:Chg F w w')(hn: ¬ F g):Bx w' g T cs:=⟨(hc.block g h.lt hn).trans h.blk⟩
theorem Jau{B:Nat}{e:TypeId}{k:Nat}{v:Value}{n:Nat}{xs:List Value}(h:w.ownsRow B e k v n xs)(hc:Chg F w w')(hn:∀b,v.ownBlock=some b -> ¬ F b):w'.ownsRow B e k v n xs:=by
 refine⟨h.1,?_⟩;rcases h.2 with y | ⟨g,cap,cur,rfl,x,z,rest⟩
 · exact .inl y
 · exact .inr ⟨g,cap,cur,rfl,x,(hc.block g (qb2 z) (hn g rfl)).trans z,rest⟩
end
open Go.ChangeAt Go.ChangeShapes Go.Deep Go.WideShapes
theorem Jxe:(Tryz.prog.info? 3).map (fun i=>(i.zero,i.size,i.bytes))=some (some (.int .i64 0),1,8):=by kernel_rfl
theorem Jvc(A:Option Addr)(n c:Nat)(zs:List Int)(w:World)(h:Ints w .i64 A n zs)(hn:n<=1000000):
  Cs 83 #[.slice A n c] w fun e w'=>∃v,e= .returned v/\w'.ownsRow w.heap.size 3 1 v n (zs.map (Value.int .i64))/\Below w.heap.size w w':=by
 have l:=fun (W:World) (a:Option Addr) (n c n' c':Nat)=>Lib.run_eql_slice_nil (P:=Tryz.prog) W _ _ a n c n' c' Tryz.underlying24;obtain⟨i0,r,x,u,t⟩:=qbx Jxe;have q:=zI (show(zs.map (Value.int .i64)).length=n*1 from by rw[qa0,h.len];omega);have p:=zI (h.sl.alloc (.cells #[] 3));cases A with
 | none=>
   have y:n=0:=by
    rcases Nat.eq_zero_or_pos n with y | y
    · exact y
    · obtain⟨b,off,e,_⟩:=h.get (j:=0) (by rw[h.len];exact y)
      cases e
   subst y;have o:zs=[]:=qa1 h.len;subst o;go_enter Tryz.func83,Tryz.ntmps83;go_wp2;go_ret;exact⟨_,rfl,qax _ _ _ _,qaa _ _⟩
 | some ad=>
   clear h;go_enter Tryz.func83,Tryz.ntmps83;go_wp2_with (at_builtin;refine Jan _ rfl _ _ 24 rfl w.heap.size 3 i0 _ 1 8 Tryz.underlying24 r x u t rfl (by decide) (.slice (some ⟨w.heap.size,0,none⟩) 0 0) 0 [] rfl (World.ownsRow_made w #[] 0 (qab _) (qaq _) (by simp)) (some ad) n c _ rfl q.out p.out (J57 .i64 zs) ?c4 ?c5 ?c6 ?_;(unfold maxLen;omega);(omega);(simp);intro v' w1 z s _)
   go_ret;refine⟨_,rfl,by simpa using z,((qaa _ w).alloc (qab _) _).grown s (by simp) (by intro k m;simp[Value.ownBlock] at m;omega)⟩
end Go.Proofs.YtglmhddbhhcjdaaGreatDoor
