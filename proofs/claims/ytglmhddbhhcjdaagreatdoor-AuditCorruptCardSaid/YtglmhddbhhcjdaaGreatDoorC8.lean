/- Laws that the walk of the last text wants. -/
import Derived.Lib.AppendIntMem
import Derived.Test.YtglmhddbhhcjdaaGreatDoorC4
import Derived.Test.YtglmhddbhhcjdaaGreatDoorC6
import Derived.Test.YtglmhddbhhcjdaaGreatDoorC5
set_option maxRecDepth 100000
set_option linter.unusedSimpArgs false
set_option maxHeartbeats 4000000
namespace Go.Proofs.YtglmhddbhhcjdaaGreatDoor
open Go.RowKit Go.Sort
def Grew (w w':World):Prop:=∃q os,w'=grow (w.drewN q) os
theorem Grew.refl(w:World):Grew w w:=⟨0,#[],by simp[grow,World.drewN]⟩
theorem Grew.alloc{w w':World}(h:Grew w w')(o:Obj):Grew w (w'.alloc o):=by
 obtain⟨q,os,rfl⟩:=h;exact⟨q,os++#[o],by rw[alloc_eq_grow,grow_grow]⟩
theorem Grew.drew{w w':World}(h:Grew w w'):Grew w w'.drew:=by
 obtain⟨q,os,rfl⟩:=h;exact⟨q+1,os,rfl⟩
theorem Jnq(a b:ByteArray)(x y:Int)(r s t u v r' s' t' u' v':Value)(w:World):
  Cs 242 #[.agg #[a,(x:Int),r,s,t,u,v],.agg #[b,(y:Int),r',s',t',u',v']] w fun e w'=>e= .returned (cmpR a.toList x b.toList y:Int)/\Grew w w':=by
 go_enter Tryz.func242,Tryz.ntmps242;go_wp2
 go_region_held3 (fun w'=>w'.cell? ⟨w.heap.size,0,none⟩=some (.string a)/\w'.cell? ⟨w.heap.size,1,none⟩=some (.int .i64 x)/\w'.cell? ⟨w.heap.size+1,0,none⟩=some (.string b)/\w'.cell? ⟨w.heap.size+1,1,none⟩=some (.int .i64 y))
  (first | assumption | (simp[go_sem,qb0]))
  (first
    | (go_at_call 306;refine(Jtq _ _ _).mono ?_;rintro e w' ⟨rfl,rfl⟩)
    | (go_at_call 307;refine(Jtr _ _ _).mono ?_;rintro e w' ⟨rfl,rfl⟩)
    | (go_at_call 305;refine(J6e (cmpS a.toList b.toList) (cmpI x y) _ _ (by simp[go_sem]) (by simp[go_sem])).mono ?_;rintro e w' ⟨rfl,rfl⟩))
 go_wp2;go_ret;exact⟨rfl,by repeat (first | exact Grew.refl _ | refine Grew.drew ?_ | refine Grew.alloc ?_ _)⟩
open Go.Shelf
section
variable {α:Type} [Inhabited α] {cs:α ->List Value} {k:Nat}
theorem Jl9(hk : ∀ x, (cs x).length=k)(l:List α):(flatK cs k l.toArray).toList=l.flatMap cs:=by
 apply qdc;intro t;by_cases z:t<l.length*k
 · have k0 : 0 < k := by rcases Nat.eq_zero_or_pos k with h | h
                         · subst h;simp at z
                         · exact h
   have v:t / k<l.length:=by rw[Nat.div_lt_iff_lt_mul k0];exact z
   have w:t % k<k:=Nat.mod_lt _ k0;have e:=Jdh hk l (t / k) v (t % k) w;rw[Nat.div_add_mod' t k] at e;rw[e,qcy];have u:=get_flatK cs k l.toArray t (by simpa using z);have y:t<(flatK cs k l.toArray).size:=by simpa using z
   rw[qc4 y,<- getElem!_pos _ t y,u];have s:l.toArray[t / k]! =l[t / k]:=by simp[v]
   rw[s,getElem!_pos _ _ (by rw[hk];exact w),qah (by rw[hk];exact w)]
 · have y:(l.flatMap cs).length<=t:=by rw[Jca hk];omega
   rw[qbj (by simpa using z),qbj y]
theorem Jnr(F cur:Array Value)(h:F.size<=cur.size):(putCells id 0 F cur).toList.take F.size=F.toList:=by
 apply qdc;intro j;by_cases z:j<F.size
 · rw[qcx z,qcy]
   simp[putCells,z,show j<cur.size by omega]
 · rw[List.getElem?_take_eq_none (by omega),qbj (by simp;omega)]
theorem Jpi{w:World}{g n:Nat}{os:Array Obj}{cur:Array Value}{e:TypeId}{fr:Nat×Nat}(d:Array α)(hb:w.heap[g]? =some (.cells cur e fr)):
  (sortWorldK cs k w g 0 n d os).heap[g]? =some (.cells (putCells id 0 (flatK cs k d) cur) e fr):=by
 have z:g<w.heap.size:=(qc1.1 hb).1;unfold sortWorldK putRowK;rw[heap_grow_old _ _ (by simpa using z)];simp[putRow,mapBlock,Sort.ahead,Array.getElem?_modify,hb,onCells]
theorem Jko{w:World}{g n:Nat}{os:Array Obj}(d:Array α):w.grownBy (sortWorldK cs k w g 0 n d os) (some g):=by
 unfold sortWorldK putRowK;refine⟨rfl,rfl,rfl,by simp,fun j hj hne=> ?_⟩;rw[heap_grow_old _ _ (by simpa using hj)];have:g≠j:=fun e=>hne (by rw[e]);simp[putRow,mapBlock,Sort.ahead,Array.getElem?_modify,this]
theorem Jkp(hk:∀x,(cs x).length=k){w:World}{g:Nat}{cur:Array Value}{e:TypeId}{l:List α}(hb:w.heap[g]? =some (.cells cur e (0,0)))(ht:cur.toList.take (l.length*k)=l.flatMap cs):HoldsK cs k w g 0 l.toArray:=by
 intro j z;have y:j<l.length*k:=by simpa using z
 refine⟨?_,by simp[World.frozen?,hb]⟩;have v:(cur.toList.take (l.length*k))[j]? =(flatK cs k l.toArray).toList[j]? :=by rw[ht,Jl9 hk]
 rw[qcx y,qcy,qcy] at v;simp only[World.cell?,hb,qa7];simp only[Option.isSome_none,Bool.false_eq_true,if_false];rw[v,qc4 z,<- getElem!_pos _ j z];rfl
theorem Jkq(hk:∀x,(cs x).length=k){w:World}{base g cap n m:Nat}{e:TypeId}{os:Array Obj}{cur:Array Value}{l:List α}(hl:l.length=m)(hbase:base<=g)(hb:w.heap[g]? =some (.cells cur e (0,0)))(h1:m<=cap)(h2:cap<=maxLen)(h3:cur.size=cap*k):
  (sortWorldK cs k w g 0 n l.toArray os).ownsRow base e k (.slice (some ⟨g,0,none⟩) m cap) m (l.flatMap cs):=
 ⟨by rw[Jca hk,hl],.inr ⟨g,cap,_,rfl,hbase,Jpi _ hb,h1,h2,by simp[putCells,h3],by
  have:=Jnr (flatK cs k l.toArray) cur (by rw[size_flatK,h3];simp;rw[hl];exact Nat.mul_le_mul_right _ h1);rw[size_flatK] at this;simp only[List.size_toArray,hl] at this;rw[this,Jl9 hk]⟩⟩
end
end Go.Proofs.YtglmhddbhhcjdaaGreatDoor
namespace Go.Proofs.YtglmhddbhhcjdaaGreatDoor.Led
open Go.RowKit Go.Maps
theorem Jal{a b:Bool}(h:a=b):Ending.returned a= .returned b:=by rw[h]
theorem Jby{k:IntKind}{a b:Int}(h:a=b):Ending.returned (.int k a)= .returned (.int k b):=by rw[h]
theorem wf_i64{z:Int}(h: -9223372036854775808<=z/\z<=9223372036854775807):(Lit.int .i64 z).wf=true:=by
 have:IntKind.i64.min= -9223372036854775808/\IntKind.i64.max=9223372036854775807:=by decide
 simp[Lit.wf,this.1,this.2,h.1,h.2]
theorem Jkr(w:World):(zeroValue 234).run Tryz.prog w= .ok (.agg #[]) w:=by kernel_rfl
def Jns (o:Option Obj) (m:Nat) (from_ n:Int):Prop:=∃ (tl:List Value) (T:TypeId),o=some (.cells ⟨(from_:Int):: (n:Int):: .map (some m)::tl⟩ T (0,0))
theorem Jns.keep{o o':Option Obj}{m:Nat}{f n:Int}(h:Jns o m f n)(e:o'=o):Jns o' m f n:=e ▸ h
structure Jaz (w:World) (g m:Nat) (from_ n:Int) (us:List Int):Prop where
 blk:Jns w.heap[g]? m from_ n
 set:Jbn w m us
 rng:0<=from_/\from_<=9223372036854775807/\0<=n/\n<=4096/\(n=0\/from_<=4096)
 ins:∀z∈us,from_<=z/\z<from_+n
theorem Jaz.lt{w:World}{g m:Nat}{f n:Int}{us:List Int}(h:Jaz w g m f n us):g<w.heap.size:=by obtain⟨_,_,e⟩:=h.blk;exact qcb e
theorem Jaz.ne{w:World}{g m:Nat}{f n:Int}{us:List Int}(h:Jaz w g m f n us):g≠m:=by
 intro e;obtain⟨es,c,z,_⟩:=h.set.own;obtain⟨_,_,this⟩:=h.blk;rw[e,z] at this;cases this
theorem Jaz.cells{w:World}{g m:Nat}{f n:Int}{us:List Int}(h:Jaz w g m f n us):w.cell? ⟨g,0,none⟩=some (.int .i64 f)/\w.cell? ⟨g,1,none⟩=some (.int .i64 n)/\w.cell? ⟨g,2,none⟩=some (.map (some m)):=by
 obtain⟨_,_,e⟩:=h.blk;exact⟨qb4 w g 0 _ _ _ e,qb4 w g 1 _ _ _ e,qb4 w g 2 _ _ _ e⟩
theorem Jaz.below{w w':World}{g m:Nat}{f n:Int}{us:List Int}(h:Jaz w g m f n us)(hb:Below w.heap.size w w'):Jaz w' g m f n us:=
 ⟨h.blk.keep (hb.block g h.lt),h.set.below hb h.set.lt,h.rng,h.ins⟩
theorem Jaz.far{w w':World}{g m:Nat}{f n:Int}{us:List Int}{row:Option Nat}(h:Jaz w g m f n us)(hg:w.grownBy w' row)(h1:some g≠row)(h2:some m≠row):Jaz w' g m f n us:=
 ⟨h.blk.keep (hg.block g h.lt h1),h.set.grown hg h2,h.rng,h.ins⟩
theorem Jgh:∀ {l:List Int} {a b:Int},Rising l ->a<=b ->(∀z∈l,a<=z/\z<b) ->(l.length:Int)<=b - a
 | [],a,b,_,hab,_=>by simp;omega
 | y::r,a,b,h,_,hi=>by
   unfold Rising at h;rw[qa9] at h;have x:=hi y (by simp);have:=Jgh (l:=r) (a:=y+1) (b:=b) h.2 (by omega) (fun z hz=>⟨by have:=h.1 z hz;omega,(hi z (by simp[hz])).2⟩);simp only[qa3];omega
theorem Jaz.size_le{w:World}{g m:Nat}{f n:Int}{us:List Int}(h:Jaz w g m f n us):(us.length:Int)<=n:=by
 have:=Jgh h.set.rising (a:=f) (b:=f+n) (by have:=h.rng;omega) h.ins;omega
theorem Jnt(g m:Nat)(f n:Int)(us:List Int)(z:Int)(w:World)(h:Jaz w g m f n us)(hz:(Lit.int .i64 z).wf=true):
  Cs 391 #[g,(z:Int)] w (RB w (decide (z∈us))):=by
 obtain⟨c0,c1,c2⟩:=h.cells;have y:=h.set.own;go_enter Tryz.func391,Tryz.ntmps391;go_wp2_with (at_lookup;refine wpList_lookup_own_unit _ rfl _ _ 233 rfl 3 234 Jcu Tryz.underlying233 (Jkr _) m us.length (setD us) rfl y _ _ rfl (keyOf_int_mk Tryz.underlying3 hz) ?_)
 go_ret;exact⟨Jal (Jnn us z),(qaa _ _).alloc (qab _) _⟩
theorem Jnu(g m:Nat)(f n:Int)(us:List Int)(w:World)(h:Jaz w g m f n us):
  Cs 340 #[g] w (RB w (n - us.length:Int)):=by
 obtain⟨c0,c1,c2⟩:=h.cells
 have z:∀q ty,(Builtin.len_ #[233] ty #[.map (some m)]).run Tryz.prog (w.drewN q)= .ok (us.length:Int) (w.drewN q):=fun q ty=>by
  have y:(w.drewN q).ownsMap Tryz.prog 3 (unitElem (H:=Unit)) m us.length (setD us):=h.set.own;rw[y.len Tryz.underlying233 ty,Jhw]
 have x:=h.size_le;obtain⟨_,_,v,u,_⟩:=h.rng;go_enter Tryz.func340,Tryz.ntmps340;go_wp2;go_quiet (fail)
 go_wp2;go_ret;exact⟨rfl,below_drewN (qaa _ _) _⟩
def J60 (from_ n:Int) (w:World) (e:Ending) (w':World):Prop:=
 ∃g m f k,e= .returned (g:Nat)/\Jaz w' g m f k []/\Below w.heap.size w w'/\w.heap.size<=g/\w.heap.size<=m/\
  f=max from_ 0/\k=if from_<0\/4096<from_\/n<0 then 0 else min n 4096
theorem J9h(w:World)(f k:Int)(h:0<=f/\f<=9223372036854775807/\0<=k/\k<=4096/\(k=0\/f<=4096)):
  Jaz ((w.alloc (.map #[] 0)).alloc (.cells #[(f:Int),(k:Int),.map (some w.heap.size)] 336)) (w.heap.size+1) w.heap.size f k []:=
 ⟨⟨[],_,by have:=qci (w.alloc (.map #[] 0)) (.cells #[(f:Int),(k:Int),.map (some w.heap.size)] 336);simpa using this⟩,(Jbn.new w).alloc _,h,by simp⟩
theorem J61(from_ n:Int)(w:World)(hf: -9223372036854775808<=from_/\from_<=9223372036854775807):
  Cs 244 #[(from_:Int),(n:Int)] w (J60 from_ n w):=by
 have z:=@run_makeMap Tryz.prog;obtain⟨y,x⟩:=hf;go_enter Tryz.func244,Tryz.ntmps244;go_wp2
 all_goals
  go_ret;refine⟨_,_,_,_,rfl,J9h w _ _ ?_,((qaa _ _).alloc (qab _) _).alloc (by simp) _,by simp,by simp,?_,?_⟩
  · omega
  · omega
  · split<;>omega
def insAll (us:List Int) (zs:List Int):List Int:=zs.foldl (fun u z=>ins z u) us
theorem Jg9(us zs:List Int)(z:Int):insAll us (zs++[z])=ins z (insAll us zs):=by simp[insAll,qb8]
theorem mem_insAll{x:Int}:∀ {zs us:List Int},x∈insAll us zs↔x∈us\/x∈zs
 | [],us=>by simp[insAll]
 | z::r,us=>by
   show x∈insAll (ins z us) r↔_;rw[mem_insAll (zs:=r),Jg7];simp;constructor
   · rintro((h | h) | h)<;>simp[h]
   · rintro(h | h | h)<;>simp[h]
theorem Jdj:∀ {zs us:List Int},Rising us ->Rising (insAll us zs)
 | [],_,h=>h
 | _::r,_,h=>Jdj (zs:=r) (Jct h)
theorem Jfs{w w':World}{k:IntKind}{A:Option Addr}{n:Nat}{zs:List Int}{m:Nat}(h:Ints w k A n zs)(hg:w.grownBy w' (some m))(hm:∀o,w.cell? ⟨m,o,none⟩=none):Ints w' k A n zs:=
 ⟨⟨fun hne=>by
  obtain⟨b,off,e,z,v⟩:=h.sl.at_ hne
  have y:b≠m:=by
   rintro rfl;obtain⟨u,r,x⟩:=List.exists_cons_of_ne_nil hne;have:=v 0 u (by rw[x];rfl);rw[hm] at this;cases this
  exact⟨b,off,e,qar z hg.size,fun j u x=>hg.cell (a:=⟨b,off+j,none⟩) (v j u x) (fun e=>y (by injection e))⟩⟩,h.len,h.n_le,h.wf⟩
theorem Jbn.nocell{w:World}{b:Nat}{us:List Int}(h:Jbn w b us)(o:Nat):w.cell? ⟨b,o,none⟩=none:=by
 obtain⟨es,c,z,_⟩:=h.own;simp[World.cell?,z]
theorem Jas{a b c:World}{row:Option Nat}(h:a.grownBy b row)(k:b.grownBy c row):a.grownBy c row:=
 ⟨k.os.trans h.os,k.tape.trans h.tape,k.output.trans h.output,qax h.size k.size,fun i hi hne=>(k.block i (qar hi h.size) hne).trans (h.block i hi hne)⟩
theorem Jab{a b:World}(h:Below a.heap.size a b)(row:Option Nat):a.grownBy b row:=⟨h.os,h.tape,h.output,h.size,fun i hi _=>h.block i hi⟩
theorem J62(g m:Nat)(f n:Int)(us:List Int)(A:Option Addr)(k c:Nat)(zs:List Int)(w:World)(h:Jaz w g m f n us)(hz:Ints w .i64 A k zs)(hin:∀z∈zs,f<=z/\z<f+n):
  Cs 392 #[g,.slice A k c] w fun e w'=>e= .returned (.tuple #[])/\Jaz w' g m f n (insAll us zs)/\w.grownBy w' (some m):=by
 have d:=hz.n_le;have l:=zI hz.len;unfold maxLen at d;go_enter Tryz.func392,Tryz.ntmps392;go_wp2;go_loopw [8] (fun i wr=>∃j:Nat,j<=k/\i= .int .i64 j/\Jaz wr g m f n (insAll us (zs.take j))/\w.grownBy wr (some m)) (fun i _=>k - (intOf i).toNat)
 case atStart=>exact⟨0,qaq _,rfl,h,qcc _ _⟩
 case round=>
  obtain⟨j,Y,rfl,v,u⟩:=hrel;by_cases r:j<k
  · have K:j<zs.length:=by rw[l.out];exact r
    obtain⟨b,off,rfl,W,V⟩:=(Jfs hz u h.set.nocell).get K;obtain⟨c0,c1,c2⟩:=v.cells;have s:=v.set.own;have q:=hz.wf _ (qan K);have a:=v.size_le;obtain⟨_,_,_,p,_⟩:=v.rng;have Z:=zI (show insAll us (zs.take (j+1))=ins zs[j] (insAll us (zs.take j)) from by rw[qam K,Jg9]);go_wp2_with (at_mapUpdate;refine wpList_mapUpdate_own _ rfl _ _ _ 233 rfl 3 234 Jcu Tryz.underlying233 _ m _ (setD (insAll us (zs.take j))) rfl s (by unfold maxLen;omega) _ _ _ rfl rfl (keyOf_int_mk Tryz.underlying3 q) _ [] unitElem_mk ?_;intro w1 y x)
    rw[Jno _ _ v.set.rising] at y
    have o:Jaz w1 g m f n (insAll us (zs.take (j+1))):=by
     rw[Z.out]
     exact⟨v.blk.keep (x.block g v.lt (fun e=>v.ne (by injection e))),Jbn.of_own y (Jct v.set.rising),v.rng,fun z t=>by
      rcases Jg7.1 t with rfl | t
      · exact hin _ (qan K)
      · exact v.ins z t⟩
    clear y;go_wp2;go_roundw
    case rel=>exact⟨j+1,by omega,by go_num,o,Jas u x⟩
    case measure=>simp[intOf];omega
  · go_wp2
    go_end0
    rw[qap (by rw[l.out];omega)] at v;exact⟨rfl,v,u⟩
open Go.Shelf Go.Sort
theorem J9i(q:Nat):AnyZI.SortsIn Tryz.prog Tryz.sortedA_ren Fence.wide q:=
 ⟨fun blk off cap ss W hH hblk hsz=>callsIn_wide.2 (AnyM.slices_Sort_int Tryz.sortA blk off cap ss W hH hblk hsz),
  fun p cap W=>callsIn_wide.2 (AnyM.slices_Sort_int_none Tryz.sortA p cap W)⟩
theorem Jpj(us:List Int):intKeys (setD (H:=Unit) us)=us:=by
 unfold setD intKeys;simp only[qcl]
 conv=>rhs;rw[<- List.map_id us]
 apply qcv;intro x _;rfl
theorem sorted_perm{us ss:List Int}(hr:Rising us)(hp:ss.Perm us):ss.mergeSort (fun x y=>decide (x<=y))=us:=by
 have w:(ss.mergeSort (fun x y=>decide (x<=y))).Perm us:=(List.mergeSort_perm _ _).trans hp;have v:=List.pairwise_mergeSort (le:=fun x y:Int=>decide (x<=y)) (fun a b c w v=>by simp at*;omega) (fun a b=>by simp;omega) ss;refine Jdn ?_ hr (fun x=>w.mem_iff);have s:(ss.mergeSort (fun x y=>decide (x<=y))).Nodup:=w.symm.nodup hr.nodup;unfold Rising;rw[List.pairwise_iff_getElem] at v ⊢;intro i j u t z;have a:=v i j u t z;have b:=(List.pairwise_iff_getElem.1 s) i j u t z;simp at a;omega
end Go.Proofs.YtglmhddbhhcjdaaGreatDoor.Led
namespace Go.Proofs.YtglmhddbhhcjdaaGreatDoor
open Go.RowKit
structure Chg (F:Nat ->Prop) (w w':World):Prop where
 os:w'.os=w.os
 tape:w'.tape=w.tape
 output:w'.output=w.output
 size:w.heap.size<=w'.heap.size
 block:∀b,b<w.heap.size -> ¬ F b ->w'.heap[b]? =w.heap[b]?
section
variable {F G:Nat ->Prop} {w w1 w':World}
theorem Chg.refl(F:Nat ->Prop)(w:World):Chg F w w:=⟨rfl,rfl,rfl,qab _,fun _ _ _=>rfl⟩
theorem Chg.of_below(h:Below w.heap.size w w'):Chg F w w':=⟨h.os,h.tape,h.output,h.size,fun b hb _=>h.block b hb⟩
theorem Chg.of_grown{row:Option Nat}(h:w.grownBy w' row)(hF:∀b,row=some b ->F b):Chg F w w':=
 ⟨h.os,h.tape,h.output,h.size,fun b hb hn=>h.block b hb (fun e=>hn (hF b e.symm))⟩
theorem Chg.mono(h:Chg F w w')(hF:∀b,b<w.heap.size ->F b ->G b):Chg G w w':=⟨h.os,h.tape,h.output,h.size,fun b hb hn=>h.block b hb (fun hf=>hn (hF b hb hf))⟩
theorem Chg.trans(h:Chg F w w1)(k:Chg G w1 w')(hG:∀b,G b ->F b\/w.heap.size<=b):Chg F w w':=
 ⟨k.os.trans h.os,k.tape.trans h.tape,k.output.trans h.output,qax h.size k.size,fun b hb hn=>
  (k.block b (qar hb h.size) (fun hg=>by rcases hG b hg with z | z;exact hn z;omega)).trans (h.block b hb hn)⟩
theorem Chg.then_below(h:Chg F w w1)(k:Below w1.heap.size w1 w'):Chg F w w':=
 ⟨k.os.trans h.os,k.tape.trans h.tape,k.output.trans h.output,qax h.size k.size,fun b hb hn=>(k.block b (qar hb h.size)).trans (h.block b hb hn)⟩
theorem Chg.after_below(h:Below w.heap.size w w1)(k:Chg G w1 w')(hG:∀b,G b ->F b\/w.heap.size<=b):Chg F w w':=(Chg.of_below h).trans k hG
theorem Chg.set(w:World)(p:Addr)(u:Value)(hF:F p.block):Chg F w (w.setCell p u):=
 ⟨rfl,rfl,rfl,Nat.le_of_eq (World.size_setCell w p u).symm,fun b _ hn=>qdi _ _ _ b (fun e=>hn (by rw[e];exact hF))⟩
theorem Chg.below{B:Nat}(h:Chg F w w')(hF:∀b,F b ->B<=b)(hB:B<=w.heap.size):Below B w w':=
 ⟨h.os,h.tape,h.output,h.size,fun b hb=>h.block b (by omega) (fun hf=>by have:=hF b hf;omega)⟩
theorem Chg.none(h:Chg (fun _=>False) w w'):Below w.heap.size w w':=⟨h.os,h.tape,h.output,h.size,fun b hb=>h.block b hb (fun f=>f)⟩
theorem Chg.cell(h:Chg F w w'){p:Addr}(hp:p.block<w.heap.size)(hn: ¬ F p.block):w'.cell? p=w.cell? p:=qbk (w:=w) (h.block p.block hp hn)
theorem Bx.chg{g:Nat}{T:TypeId}{cs:Array Value}(h:Bx w g T cs)(hc:Chg F w w')(hn: ¬ F g):Bx w' g T cs:=⟨(hc.block g h.lt hn).trans h.blk⟩
theorem Jax{B:Nat}{e:TypeId}{k:Nat}{v:Value}{n:Nat}{xs:List Value}(h:w.ownsRow B e k v n xs)(hc:Chg F w w')(hn:∀b,v.ownBlock=some b -> ¬ F b):w'.ownsRow B e k v n xs:=by
 refine⟨h.1,?_⟩;rcases h.2 with y | ⟨g,cap,cur,rfl,x,z,rest⟩
 · exact .inl y
 · exact .inr ⟨g,cap,cur,rfl,x,(hc.block g (qcb z) (hn g rfl)).trans z,rest⟩
end
open Go.ChangeAt Go.ChangeShapes Go.Deep Go.WideShapes
theorem Jx8:(Tryz.prog.info? 3).map (fun i=>(i.zero,i.size,i.bytes))=some (some (.int .i64 0),1,8):=by kernel_rfl
theorem Jvy(A:Option Addr)(n c:Nat)(zs:List Int)(w:World)(h:Ints w .i64 A n zs)(hn:n<=1000000):
  Cs 83 #[.slice A n c] w fun e w'=>∃v,e= .returned v/\w'.ownsRow w.heap.size 3 1 v n (zs.map (Value.int .i64))/\Below w.heap.size w w':=by
 have l:=fun (W:World) (a:Option Addr) (n c n' c':Nat)=>Lib.run_eql_slice_nil (P:=Tryz.prog) W _ _ a n c n' c' Tryz.underlying24;obtain⟨i0,r,x,u,t⟩:=qb2 Jx8;have q:=zI (show(zs.map (Value.int .i64)).length=n*1 from by rw[qa4,h.len];omega);have p:=zI (h.sl.alloc (.cells #[] 3));cases A with
 | none=>
   have y:n=0:=by
    rcases Nat.eq_zero_or_pos n with y | y
    · exact y
    · obtain⟨b,off,e,_⟩:=h.get (j:=0) (by rw[h.len];exact y)
      cases e
   subst y;have o:zs=[]:=qa5 h.len;subst o;go_enter Tryz.func83,Tryz.ntmps83;go_wp2;go_ret;exact⟨_,rfl,qaz _ _ _ _,qaa _ _⟩
 | some ad=>
   clear h;go_enter Tryz.func83,Tryz.ntmps83;go_wp2_with (at_builtin;refine Jap _ rfl _ _ 24 rfl w.heap.size 3 i0 _ 1 8 Tryz.underlying24 r x u t rfl (by decide) (.slice (some ⟨w.heap.size,0,none⟩) 0 0) 0 [] rfl (World.ownsRow_made w #[] 0 (qab _) (qaq _) (by simp)) (some ad) n c _ rfl q.out p.out (J6v .i64 zs) ?c4 ?c5 ?c6 ?_;(unfold maxLen;omega);(omega);(simp);intro v' w1 z s _)
   go_ret;refine⟨_,rfl,by simpa using z,((qaa _ w).alloc (qab _) _).grown s (by simp) (by intro k m;simp[Value.ownBlock] at m;omega)⟩
end Go.Proofs.YtglmhddbhhcjdaaGreatDoor
namespace Go.Proofs.YtglmhddbhhcjdaaGreatDoor.Py
open Go.RowKit
def digB (c:UInt8):Bool:=decide (48<=c.toNat) && decide (c.toNat<=57)
def numN (l:List UInt8):Nat:=l.foldl (fun n c=>10*n+(c.toNat - 48)) 0
theorem Jft(l:List UInt8)(c:UInt8):numN (l++[c])=10*numN l+(c.toNat - 48):=by simp[numN,qb8]
def Jfk (d:List UInt8) (below:Bool):Bool:=decide (d.length=0) || (decide (18<d.length) || (d.head? ==some 48 && (decide (1<d.length) || below)))
def numR (s:List UInt8):Option Int:=
 if Jfk (Lib.trimPrefix s [45]) (Lib.hasPrefix s [45])=true then none
 else if (Lib.trimPrefix s [45]).all digB=true then some (if Lib.hasPrefix s [45]=true then -(numN (Lib.trimPrefix s [45]):Int) else numN (Lib.trimPrefix s [45]))
 else none
def numV:Option Int ->Value
 | some n=> .tuple #[(n:Int),(0:Int)]
 | none=> .tuple #[(0:Int),(1:Int)]
theorem Jha:∀ (l:List UInt8),l.all digB=true ->numN l<10 ^ l.length:=by
 intro l;obtain⟨m,rfl⟩:∃m:List UInt8,l=m.reverse:=⟨l.reverse,by simp⟩
 induction m with
 | nil=>intro _;simp[numN]
 | cons c r ih=>
   intro h;rw[qby,List.all_append,qb1] at h;have y:=ih h.1;have z:digB c=true:=by simpa using h.2
   unfold digB at z;simp only[qb1,qbc] at z;rw[qby,Jft,qad,qa3,qbo,qa7,Nat.pow_succ];omega
theorem J63{s:List UInt8}{n:Int}(h:numR s=some n): -1000000000000000000<n/\n<1000000000000000000:=by
 unfold numR at h;split at h
 · cases h
 · next hb=>
   split at h
   · next ha=>
     have y:=Jha _ ha
     have z:(Lib.trimPrefix s [45]).length<=18:=by
      unfold Jfk at hb;simp only[Bool.or_eq_true,qbc,not_or] at hb;omega
     have x:10 ^ (Lib.trimPrefix s [45]).length<=10 ^ 18:=qcn (by omega) z;have w:(10:Nat) ^ 18=1000000000000000000:=(by decide);injection h with h;split at h<;>omega
   · cases h
def Jdb:List UInt8:=[112,111,108,105,99,121]
def Jhb:List UInt8:=[116,105,101,114]
def Jcq:List UInt8:=[101,118,101,114,121]
def Jfm:List UInt8:=[107,101,101,112]
def Jbu:List UInt8:=[115,104,97,114,100,115]
def txt (g:List (List UInt8)) (i:Nat):List UInt8:=g.getD i []
def txts (l:List Wd):List (List UInt8):=l.map Wd.text
theorem J6j{l:List Wd}{i:Nat}(h:i<l.length):txt (txts l) i=l[i].text:=by simp[txt,txts,List.getD,qah h]
def Jhz (g:List (List UInt8)) (i:Nat) (what:List UInt8):Bool:=(txt g i==what) && (numR (txt g (i+1))).isSome
def Jh0 (g:List (List UInt8)) (i:Nat):Int:=(numR (txt g (i+1))).getD 0
def Jfl (g:List (List UInt8)):Bool:=decide (g.length=2) && (txt g 0==Jdb)
def Jdf (g:List (List UInt8)) (n:Nat):Bool:=(decide (g.length=8) && ((txt g 0==Jhb) && !decide (n=5))) && (Jhz g 2 Jcq && (Jhz g 4 Jfm && Jhz g 6 Jbu))
def Jnv (g:List (List UInt8)):Ti:=⟨⟨(txt g 1).toArray⟩,Jh0 g 2,Jh0 g 4,Jh0 g 6⟩
def Jdv (l:List Wd):List Wd:=match l with
 | []=>[]
 | x::_=>l.takeWhile (fun y=>decide (y.line=x.line))
def Jtx (l:List Wd):List Wd:=l.drop (Jdv l).length
inductive Rd where
 | bad (e at_:Int)
 | good (nm:List UInt8) (ts:List Ti)
def Jcr (l:List Wd):Int:=match l with
 | []=>1
 | x::_=>x.line
def Jg1 (nm:List UInt8):Nat ->List Wd ->List Ti ->Rd
 | 0,_,acc=> .good nm acc
 | f+1,l,acc=>if l=[] then .good nm acc else if Jdf (txts (Jdv l)) acc.length=true then Jg1 nm f (Jtx l) (acc++[Jnv (txts (Jdv l))]) else .bad 22 (Jcr l)
def Jdg (l:List Wd):Rd:=if Jfl (txts (Jdv l))=true then Jg1 (txt (txts (Jdv l)) 1) l.length (Jtx l) [] else .bad 22 (Jcr l)
def Jdw (s:ByteArray):Rd:=
 if 4000<s.size then .bad 2 0 else if cutE 1 (Jb7 s)≠0 then .bad 22 (cutE 1 (Jb7 s)) else Jdg (cutW 1 (Jb7 s))
theorem Jvz(l:List Wd)(h:l≠[]):1<=(Jdv l).length:=by
 match l,h with
 | x::r,_=>unfold Jdv;simp
theorem Jnw(g:List (List UInt8))(i:Nat): -9223372036854775808<=Jh0 g i/\Jh0 g i<=9223372036854775807:=by
 unfold Jh0;cases h:numR (txt g (i+1)) with
 | none=>simp
 | some n=>have:=J63 h;simp;omega
theorem Jma{c:UInt8}(h:(c.toNat:Int)<48\/57<(c.toNat:Int)):digB c=false:=by
 unfold digB;rcases h with h | h
 · rw[qae (by omega)];rfl
 · rw[qae (show ¬ c.toNat<=57 by omega)];simp
theorem Jr6{c:UInt8}(h1:48<=(c.toNat:Int))(h2:(c.toNat:Int)<=57):digB c=true:=by
 unfold digB;rw[qaj (by omega),qaj (by omega)];rfl
theorem Jiv{s:ByteArray}{k:Nat}(h:k<s.size)(hb:digB s[k]=false):s.toList.all digB=false:=by
 cases hh:s.toList.all digB
 · rfl
 · rw[qdr] at hh
   have:=hh _ (List.mem_of_getElem? (Jgc s k h));rw[hb] at this;cases this
theorem Jfu{s:ByteArray}{k:Nat}(h:k<s.size)(ha:(s.toList.take k).all digB=true)(hb:digB s[k]=true):(s.toList.take (k+1)).all digB=true:=by
 rw[Jcg s k h,List.all_append,ha];simp[hb]
theorem J64{s:ByteArray}(h:0<s.size):s.toList.head? =some s[0]:=by
 rw[List.head?_eq_getElem?,Jgc s 0 h]
theorem J3b{s d:List UInt8}{b:Bool}(hd:Lib.trimPrefix s [45]=d)(hb:Lib.hasPrefix s [45]=b)(h:Jfk d b=true):numR s=none:=by
 unfold numR;rw[hd,hb,qa0 h]
theorem J3c{s d:List UInt8}{b:Bool}(hd:Lib.trimPrefix s [45]=d)(hb:Lib.hasPrefix s [45]=b)(h:d.all digB=false):numR s=none:=by
 unfold numR;rw[hd,hb];split
 · rfl
 · rw[qay (by rw[h];decide)]
theorem J65{s d:List UInt8}{b:Bool}(hd:Lib.trimPrefix s [45]=d)(hb:Lib.hasPrefix s [45]=b)(h:Jfk d b=false)(h2:d.all digB=true):numR s=some (if b=true then -(numN d:Int) else numN d):=by
 unfold numR;rw[hd,hb,qay (by rw[h];decide),qa0 h2]
theorem int_eq{k:IntKind}{a b:Int}(h:a=b):Value.int k a= .int k b:=by rw[h]
theorem Jr7{a b:Option Int}(h:a=b):numV a=numV b:=by rw[h]
theorem Jv0(s:ByteArray)(w:World):
  Cs 318 #[s] w (RS w (numV (numR s.toList))):=by
 obtain⟨d,J⟩:∃d:ByteArray,d=⟨(Lib.trimPrefix s.data.toList [45]).toArray⟩:=⟨_,rfl⟩;obtain⟨b,f⟩:=exE (Lib.hasPrefix s.data.toList [45]);have R:Lib.trimPrefix s.toList [45]=d.toList:=by rw[J,qaw,qaw]
 have P:Lib.hasPrefix s.toList [45]=b:=by rw[f,qaw]
 have V:=zI (fun h=>Jr7 (J3b R P h));have U:=zI (fun h=>Jr7 (J3c R P h));have M:=zI (fun h S=>Jr7 (J65 R P h S));have HC:=zI (fun W=>Tryz.strings_CutPrefix s ⟨#[45]⟩ W)
 have Z:Hid (∀W,Cs 379 #[s,.string ⟨#[45]⟩] W (RS W (.tuple #[(d:ByteArray),b]))):=zI (fun W=>by
  rw[J,f];exact(HC.out W).mono fun e w' h=>by first | exact⟨h.1,h.2.symm⟩ | exact⟨h.1,h.2⟩)
 have Y:d.toList.length=d.size:=Jac d;clear R P J f HC;by_cases h0:d.size=0
 · have t:=zI (V.out (by unfold Jfk;rw[Y,h0];rfl))
   go_enter Tryz.func318,Tryz.ntmps318;go_wp2_with (go_at_call 379;refine(Z.out _).mono ?_;rintro e w1 ⟨rfl,rfl⟩)
   go_ret2;exact⟨by rw[t.out];rfl,rfl⟩
 by_cases L:18<d.size
 · have t:=zI (V.out (by unfold Jfk;rw[Y,qaj L];simp))
   have Hc:((d.size:Int)==0)=false:=qat.2 (by omega);go_enter Tryz.func318,Tryz.ntmps318;go_wp2_with (go_at_call 379;refine(Z.out _).mono ?_;rintro e w1 ⟨rfl,rfl⟩)
   go_ret2;exact⟨by rw[t.out];rfl,rfl⟩
 have hp:0<d.size:=by omega
 have hh:=J64 hp;by_cases O:Jfk d.toList b=true
 · have t:=zI (V.out O)
   have o:(d[0].toNat:Int)=48/\(1<d.size\/b=true):=by
    unfold Jfk at O;rw[Y,hh,qae h0,qae L] at O;simp only[Bool.false_or,qb1,Bool.or_eq_true,qbc,beq_iff_eq,Option.some.injEq] at O;exact⟨by rw[O.1];rfl,O.2⟩
   obtain⟨o,h1⟩:=o;clear O;go_enter Tryz.func318,Tryz.ntmps318;cases b
   · have Ha:1<d.size:=by simpa using h1
     go_wp2_with (go_at_call 379;refine(Z.out _).mono ?_;rintro e w1 ⟨rfl,rfl⟩)
     go_ret2;exact⟨by rw[t.out];rfl,rfl⟩
   · by_cases Ha:1<d.size
     all_goals
      go_wp2_with (go_at_call 379;refine(Z.out _).mono ?_;rintro e w1 ⟨rfl,rfl⟩)
      go_ret2;exact⟨by rw[t.out];rfl,rfl⟩
 have K:Jfk d.toList b=false:=by simpa using O
 clear O
 have I: ¬ (d[0].toNat:Int)=48\/(¬ 1<d.size/\b=false):=by
  have S:=K;unfold Jfk at S;rw[Y,hh,qae h0,qae L] at S;simp only[Bool.false_or,Bool.and_eq_false_iff,qdk,decide_eq_false_iff_not,qat,ne_eq,Option.some.injEq] at S;rcases S with S | S
  · exact .inl (fun e=>S (UInt8.toNat_inj.1 (by have:(48:UInt8).toNat=48:=rfl;omega)))
  · exact .inr S
 have HZ:=zI K;clear K hh;have z0:((d.size:Int)==0)=false:=qat.2 (by omega);have z18:decide (18<(d.size:Int))=false:=qae (by omega);have N:=zI I;clear I;go_enter Tryz.func318,Tryz.ntmps318;cases b
 · have Hb: ¬ (d[0].toNat:Int)=48\/(¬ 1<d.size/\(d[0].toNat:Int)=48):=by
    by_cases o:(d[0].toNat:Int)=48
    · rcases N.out with h | h
      · exact absurd o h
      · exact .inr ⟨h.1,o⟩
    · exact .inl o
   clear N;rcases Hb with o | ⟨h1,o⟩
   · have H:((d[0].toNat:Int)==48)=false:=qat.2 o
     go_wp2_with (go_at_call 379;refine(Z.out _).mono ?_;rintro e w1 ⟨rfl,rfl⟩)
     go_loop [6,7,36] (fun n _ i=>∃k:Nat,k<=d.size/\i= .int .i64 k/\n= .int .i64 (numN (d.toList.take k))/\(d.toList.take k).all digB=true) (fun _ _ i=>d.size - (intOf i).toNat)
     case atStart=>exact⟨0,qaq _,rfl,rfl,rfl⟩
     case round=>
      obtain⟨k,hk,rfl,rfl,z⟩:=hrel;have G:=zI z;by_cases m:k<d.size
      · have F:=zI (Jcg d k m)
        have y:=Jha _ z;have j:(d.toList.take k).length=k:=by rw[qao,Jac];omega
        rw[j] at y;have v:10 ^ k<=10 ^ 17:=qcn (by omega) (by omega);have g:(10:Nat) ^ 17=100000000000000000:=(by decide);rw[g] at v;have hu:d[k].toNat<=255:=by have:=d[k].toNat_lt;omega
        have E:=zI (Jft (d.toList.take k) d[k]);have x:=zI (fun f=>Jfu m G.out f);have u:=zI (fun f=>U.out (Jiv m f));obtain⟨q,l⟩:∃q,numN (d.toList.take k)=q:=⟨_,rfl⟩;rw[l] at y;rw[l];have D:=zI l;clear z j g l;by_cases a:(d[k].toNat:Int)<48
        · have t:=zI (u.out (Jma (.inl a)))
          clear x u;go_wp2;go_ret2;exact⟨by rw[t.out];rfl,rfl⟩
        by_cases c:57<(d[k].toNat:Int)
        · have t:=zI (u.out (Jma (.inr c)))
          clear x u;go_wp2;go_ret2;exact⟨by rw[t.out];rfl,rfl⟩
        have C:=zI (x.out (Jr6 (by omega) (by omega)));have T:IntKind.u8.wrap ((d[k].toNat:Int) - 48)=(d[k].toNat:Int) - 48:=by simp[IntKind.wrap,IntKind.bits,IntKind.signed];omega
        have B:IntKind.i64.wrap (10*(q:Int))=10*(q:Int):=qbd _ (by omega);have A:IntKind.i64.wrap ((d[k].toNat:Int) - 48)=(d[k].toNat:Int) - 48:=qbd _ (by omega);have hJ:IntKind.i64.wrap (10*(q:Int)+((d[k].toNat:Int) - 48))=10*(q:Int)+((d[k].toNat:Int) - 48):=qbd _ (by omega);clear x u;go_wp2;go_round
        case rel=>
         refine⟨k+1,by omega,by go_num,?_,C.out⟩;rw[F.out,E.out,D.out];exact int_eq (by omega)
        case measure=>simp[intOf];omega
      · have r:=zI (show d.toList.all digB=true from by rwa [qap (by rw[Jac];omega)] at z)
        have J:decide ((k:Int)<(d.size:Int))=false:=qae (by omega);have t:=zI (M.out HZ.out r.out);have HT:=zI (show d.toList.take k=d.toList from qap (by rw[Jac];omega));have y:=Jha _ r.out;rw[Jac] at y;have v:10 ^ d.size<=10 ^ 18:=qcn (by omega) (by omega);have p:(10:Nat) ^ 18=1000000000000000000:=(by decide);rw[p] at v;rw[HT.out];obtain⟨q,l⟩:∃q,numN d.toList=q:=⟨_,rfl⟩;rw[l] at y t ⊢;have T:IntKind.i64.wrap (-(q:Int))= -(q:Int):=qbd _ (by omega);clear z p l;go_wp2;go_ret2;exact⟨by rw[t.out];rfl,rfl⟩
   · have z1:decide (1<(d.size:Int))=false:=qae (by omega)
     go_wp2_with (go_at_call 379;refine(Z.out _).mono ?_;rintro e w1 ⟨rfl,rfl⟩)
     go_loop [6,7,36] (fun n _ i=>∃k:Nat,k<=d.size/\i= .int .i64 k/\n= .int .i64 (numN (d.toList.take k))/\(d.toList.take k).all digB=true) (fun _ _ i=>d.size - (intOf i).toNat)
     case atStart=>exact⟨0,qaq _,rfl,rfl,rfl⟩
     case round=>
      obtain⟨k,hk,rfl,rfl,z⟩:=hrel;have G:=zI z;by_cases m:k<d.size
      · have F:=zI (Jcg d k m)
        have y:=Jha _ z;have j:(d.toList.take k).length=k:=by rw[qao,Jac];omega
        rw[j] at y;have v:10 ^ k<=10 ^ 17:=qcn (by omega) (by omega);have g:(10:Nat) ^ 17=100000000000000000:=(by decide);rw[g] at v;have hu:d[k].toNat<=255:=by have:=d[k].toNat_lt;omega
        have E:=zI (Jft (d.toList.take k) d[k]);have x:=zI (fun f=>Jfu m G.out f);have u:=zI (fun f=>U.out (Jiv m f));obtain⟨q,l⟩:∃q,numN (d.toList.take k)=q:=⟨_,rfl⟩;rw[l] at y;rw[l];have D:=zI l;clear z j g l;by_cases a:(d[k].toNat:Int)<48
        · have t:=zI (u.out (Jma (.inl a)))
          clear x u;go_wp2;go_ret2;exact⟨by rw[t.out];rfl,rfl⟩
        by_cases c:57<(d[k].toNat:Int)
        · have t:=zI (u.out (Jma (.inr c)))
          clear x u;go_wp2;go_ret2;exact⟨by rw[t.out];rfl,rfl⟩
        have C:=zI (x.out (Jr6 (by omega) (by omega)));have T:IntKind.u8.wrap ((d[k].toNat:Int) - 48)=(d[k].toNat:Int) - 48:=by simp[IntKind.wrap,IntKind.bits,IntKind.signed];omega
        have B:IntKind.i64.wrap (10*(q:Int))=10*(q:Int):=qbd _ (by omega);have A:IntKind.i64.wrap ((d[k].toNat:Int) - 48)=(d[k].toNat:Int) - 48:=qbd _ (by omega);have hJ:IntKind.i64.wrap (10*(q:Int)+((d[k].toNat:Int) - 48))=10*(q:Int)+((d[k].toNat:Int) - 48):=qbd _ (by omega);clear x u;go_wp2;go_round
        case rel=>
         refine⟨k+1,by omega,by go_num,?_,C.out⟩;rw[F.out,E.out,D.out];exact int_eq (by omega)
        case measure=>simp[intOf];omega
      · have r:=zI (show d.toList.all digB=true from by rwa [qap (by rw[Jac];omega)] at z)
        have J:decide ((k:Int)<(d.size:Int))=false:=qae (by omega);have t:=zI (M.out HZ.out r.out);have HT:=zI (show d.toList.take k=d.toList from qap (by rw[Jac];omega));have y:=Jha _ r.out;rw[Jac] at y;have v:10 ^ d.size<=10 ^ 18:=qcn (by omega) (by omega);have p:(10:Nat) ^ 18=1000000000000000000:=(by decide);rw[p] at v;rw[HT.out];obtain⟨q,l⟩:∃q,numN d.toList=q:=⟨_,rfl⟩;rw[l] at y t ⊢;have T:IntKind.i64.wrap (-(q:Int))= -(q:Int):=qbd _ (by omega);clear z p l;go_wp2;go_ret2;exact⟨by rw[t.out];rfl,rfl⟩
 · have o: ¬ (d[0].toNat:Int)=48:=by
    rcases N.out with h | h
    · exact h
    · exact absurd h.2 (by decide)
   have H:((d[0].toNat:Int)==48)=false:=qat.2 o;clear N;go_wp2_with (go_at_call 379;refine(Z.out _).mono ?_;rintro e w1 ⟨rfl,rfl⟩)
   go_loop [6,7,36] (fun n _ i=>∃k:Nat,k<=d.size/\i= .int .i64 k/\n= .int .i64 (numN (d.toList.take k))/\(d.toList.take k).all digB=true) (fun _ _ i=>d.size - (intOf i).toNat)
   case atStart=>exact⟨0,qaq _,rfl,rfl,rfl⟩
   case round=>
    obtain⟨k,hk,rfl,rfl,z⟩:=hrel;have G:=zI z;by_cases m:k<d.size
    · have F:=zI (Jcg d k m)
      have y:=Jha _ z;have j:(d.toList.take k).length=k:=by rw[qao,Jac];omega
      rw[j] at y;have v:10 ^ k<=10 ^ 17:=qcn (by omega) (by omega);have g:(10:Nat) ^ 17=100000000000000000:=(by decide);rw[g] at v;have hu:d[k].toNat<=255:=by have:=d[k].toNat_lt;omega
      have E:=zI (Jft (d.toList.take k) d[k]);have x:=zI (fun f=>Jfu m G.out f);have u:=zI (fun f=>U.out (Jiv m f));obtain⟨q,l⟩:∃q,numN (d.toList.take k)=q:=⟨_,rfl⟩;rw[l] at y;rw[l];have D:=zI l;clear z j g l;by_cases a:(d[k].toNat:Int)<48
      · have t:=zI (u.out (Jma (.inl a)))
        clear x u;go_wp2;go_ret2;exact⟨by rw[t.out];rfl,rfl⟩
      by_cases c:57<(d[k].toNat:Int)
      · have t:=zI (u.out (Jma (.inr c)))
        clear x u;go_wp2;go_ret2;exact⟨by rw[t.out];rfl,rfl⟩
      have C:=zI (x.out (Jr6 (by omega) (by omega)));have T:IntKind.u8.wrap ((d[k].toNat:Int) - 48)=(d[k].toNat:Int) - 48:=by simp[IntKind.wrap,IntKind.bits,IntKind.signed];omega
      have B:IntKind.i64.wrap (10*(q:Int))=10*(q:Int):=qbd _ (by omega);have A:IntKind.i64.wrap ((d[k].toNat:Int) - 48)=(d[k].toNat:Int) - 48:=qbd _ (by omega);have hJ:IntKind.i64.wrap (10*(q:Int)+((d[k].toNat:Int) - 48))=10*(q:Int)+((d[k].toNat:Int) - 48):=qbd _ (by omega);clear x u;go_wp2;go_round
      case rel=>
       refine⟨k+1,by omega,by go_num,?_,C.out⟩;rw[F.out,E.out,D.out];exact int_eq (by omega)
      case measure=>simp[intOf];omega
    · have r:=zI (show d.toList.all digB=true from by rwa [qap (by rw[Jac];omega)] at z)
      have J:decide ((k:Int)<(d.size:Int))=false:=qae (by omega);have t:=zI (M.out HZ.out r.out);have HT:=zI (show d.toList.take k=d.toList from qap (by rw[Jac];omega));have y:=Jha _ r.out;rw[Jac] at y;have v:10 ^ d.size<=10 ^ 18:=qcn (by omega) (by omega);have p:(10:Nat) ^ 18=1000000000000000000:=(by decide);rw[p] at v;rw[HT.out];obtain⟨q,l⟩:∃q,numN d.toList=q:=⟨_,rfl⟩;rw[l] at y t ⊢;have T:IntKind.i64.wrap (-(q:Int))= -(q:Int):=qbd _ (by omega);clear z p l;go_wp2;go_ret2;exact⟨by rw[t.out];rfl,rfl⟩
theorem Jv1(n:Int)(w:World)(h0: -9223372036854775808<=n)(h1:n<=9223372036854775807)(htab:Lib.TabIs Tryz.prog w "internal/strconv.uint64pow10" .u64 Lib.pow10Tab):
  Cs 386 #[(n:Int)] w (RB w (.string ⟨(Lib.itoa n).toArray⟩)):=by
 go_enter Tryz.func386,Tryz.ntmps386;go_wp2_with (go_at_call 411;refine(Tryz.strconv_Itoa n h0 h1 _ htab).mono ?_;rintro e w1 ⟨rfl,k,os,rfl⟩)
 go_ret;exact⟨rfl,Lib.below_grow _ _ (qab _) _ _⟩
def J66 (tb what:ByteArray) (r:Option Int):Bool:=(tb.toList==what.toList) && r.isSome
theorem J67(b off n c:Nat)(t0 t1 what:ByteArray)(w:World)(hn:2<=n)(h0:w.cell? ⟨b,off,none⟩=some (.string t0))(h1:w.cell? ⟨b,off+3,none⟩=some (.string t1)):
  Cs 253 #[.slice (some ⟨b,off,none⟩) n c,what] w (RS w (.tuple #[((numR t1.toList).getD 0:Int),(J66 t0 what (numR t1.toList))])):=by
 have z:=zI (fun W=>Jv0 t1 W);have g1:(1:Int)<(n:Int):=by omega
 have g0:(0:Int)<(n:Int):=by omega
 unfold J66;cases hr:numR t1.toList with
 | none=>
   rw[hr] at z;unfold numV at z;cases hq:(t0.toList==what.toList)
   all_goals
    go_enter Tryz.func253,Tryz.ntmps253;go_wp2_with (go_at_call 318;refine(z.out _).mono ?_;rintro e w1 ⟨rfl,rfl⟩)
    go_ret2;exact⟨rfl,rfl⟩
 | some v=>
   rw[hr] at z;unfold numV at z;cases hq:(t0.toList==what.toList)
   all_goals
    go_enter Tryz.func253,Tryz.ntmps253;go_wp2_with (go_at_call 318;refine(z.out _).mono ?_;rintro e w1 ⟨rfl,rfl⟩)
    go_ret2;exact⟨rfl,rfl⟩
