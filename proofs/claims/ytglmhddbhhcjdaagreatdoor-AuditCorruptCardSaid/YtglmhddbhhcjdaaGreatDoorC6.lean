/- Laws that the walk of the last text wants. -/
import Derived.Shelf.SlSortCmp.NoneTotal
import Derived.Shelf.SlMaps.Clone
import Derived.Shelf.Strings.OnBuilder
import Derived.Shelf.Strings.Trim
import Derived.Shelf.Small.Wraps
import Derived.Shelf.Utf8.RuneCount
import Derived.Shelf.Strings.Builder2Cap
import Derived.Shelf.Strconv.Itoa3
import Derived.Shelf.Strconv.Clone
import Derived.Shelf.Strings.Shaped
import Derived.Shelf.Strings.SplitShaped
import Derived.Shelf.Strings.Runes
import Derived.Shelf.Strings.AsciiSet
import Derived.Shelf.Strings.Explode
import Derived.Shelf.Strings.Repeat
import Derived.Shelf.Unicode.DecodeLast
import Derived.Shelf.Slices.Clone
import Derived.Shelf.Slices.SearchI
import Derived.Shelf.SlicesE.Clone
import Derived.Shelf.SortM.Plain
import Derived.Shelf.SortM.SortNone
import Derived.Shelf.SlIterI.Nil
import Derived.ProofKit
import Derived.Deep.RegionHeld3
import Derived.StillTailTactics
import Derived.WalkSpells
import Derived.WalkLawsBesides
import Derived.Test.YtglmhddbhhcjdaaGreatDoorC1
set_option maxRecDepth 100000
set_option linter.unusedSimpArgs false
set_option maxHeartbeats 4000000
namespace Go.Proofs
open Go.Shelf
def Tryz.sortR_ren:Go.Shelf.Ren:=⟨fun | 6=>241 | 15=>301 | 14=>304 | 28=>362 | 29=>363 | 20=>364 | 21=>365 | 22=>366 | 23=>367 | 24=>368 | 25=>369 | 26=>370 | 27=>371 | 46=>402 | 47=>398 | 48=>399 | 49=>403 | 50=>404 | 57=>417 | n=>n,fun | 22=>43 | 24=>142 | 25=>348 | 3=>3 | 39=>237 | 0=>0 | 53=>341 | 55=>55 | 4=>4 | 46=>445 | 45=>444 | 50=>191 | 5=>5 | 9=>9 | 66=>474 | 70=>477 | 76=>485 | 77=>486 | n=>n,fun | n=>n⟩
theorem Tryz.sortR:Go.Proofs.SlLaysF0.n6 Tryz.prog Tryz.sortR_ren:={
 mixed:=by kernel_rfl
 f6:=⟨Tryz.f241.name,by decide,Tryz.func241.trans (congrArg some (by kernel_rfl))⟩
 f14:=⟨Tryz.f304.name,by decide,Tryz.func304.trans (congrArg some (by kernel_rfl))⟩
 f15:=Tryz.func301.trans (congrArg some (by kernel_rfl))
 f20:=⟨Tryz.f364.name,by decide,Tryz.func364.trans (congrArg some (by kernel_rfl))⟩
 f21:=⟨Tryz.f365.name,by decide,Tryz.func365.trans (congrArg some (by kernel_rfl))⟩
 f22:=⟨Tryz.f366.name,by decide,Tryz.func366.trans (congrArg some (by kernel_rfl))⟩
 f23:=⟨Tryz.f367.name,by decide,Tryz.func367.trans (congrArg some (by kernel_rfl))⟩
 f24:=⟨Tryz.f368.name,by decide,Tryz.func368.trans (congrArg some (by kernel_rfl))⟩
 f25:=⟨Tryz.f369.name,by decide,Tryz.func369.trans (congrArg some (by kernel_rfl))⟩
 f26:=⟨Tryz.f370.name,by decide,Tryz.func370.trans (congrArg some (by kernel_rfl))⟩
 f27:=⟨Tryz.f371.name,by decide,Tryz.func371.trans (congrArg some (by kernel_rfl))⟩
 f28:=Tryz.func362.trans (congrArg some (by kernel_rfl))
 f29:=Tryz.func363.trans (congrArg some (by kernel_rfl))
 f46:=⟨Tryz.f402.name,by decide,Tryz.func402.trans (congrArg some (by kernel_rfl))⟩
 f47:=Tryz.func398.trans (congrArg some (by kernel_rfl))
 f48:=Tryz.func399.trans (congrArg some (by kernel_rfl))
 f49:=⟨Tryz.f403.name,by decide,Tryz.func403.trans (congrArg some (by kernel_rfl))⟩
 f50:=⟨Tryz.f404.name,by decide,Tryz.func404.trans (congrArg some (by kernel_rfl))⟩
 f57:=⟨Tryz.f417.name,by decide,Tryz.func417.trans (congrArg some (by kernel_rfl))⟩
 t0:=Tryz.underlying0
 a0:=Tryz.isAgg0
 z0:=Tryz.sizeOf0
 v0:=Tryz.zeroValue0
 t3:=Tryz.underlying3
 a3:=Tryz.isAgg3
 z3:=Tryz.sizeOf3
 v3:=Tryz.zeroValue3
 t4:=Tryz.underlying4
 a4:=Tryz.isAgg4
 z4:=Tryz.sizeOf4
 v4:=Tryz.zeroValue4
 t5:=Tryz.underlying5
 a5:=Tryz.isAgg5
 z5:=Tryz.sizeOf5
 v5:=Tryz.zeroValue5
 t9:=Tryz.underlying9
 a9:=Tryz.isAgg9
 z9:=Tryz.sizeOf9
 v9:=Tryz.zeroValue9
 t22:=Tryz.underlying43
 a22:=Tryz.isAgg43
 z22:=Tryz.sizeOf43
 v22:=Tryz.zeroValue43
 t25:=Tryz.underlying348
 a25:=Tryz.isAgg348
 z25:=Tryz.sizeOf348
 v25:=Tryz.zeroValue348
 t39:=Tryz.underlying237
 a39:=Tryz.isAgg237
 z39:=Tryz.sizeOf237
 v39:=Tryz.zeroValue237
 t45:=Tryz.underlying444
 a45:=Tryz.isAgg444
 z45:=Tryz.sizeOf444
 v45:=Tryz.zeroValue444
 t46:=Tryz.underlying445
 a46:=Tryz.isAgg445
 z46:=Tryz.sizeOf445
 v46:=Tryz.zeroValue445
 t50:=Tryz.underlying191
 a50:=Tryz.isAgg191
 z50:=Tryz.sizeOf191
 v50:=Tryz.zeroValue191
 t53:=Tryz.underlying341
 a53:=Tryz.isAgg341
 z53:=Tryz.sizeOf341
 v53:=Tryz.zeroValue341
 t55:=Tryz.underlying55
 a55:=Tryz.isAgg55
 z55:=Tryz.sizeOf55
 v55:=Tryz.zeroValue55
 t66:=Tryz.underlying474
 a66:=Tryz.isAgg474
 z66:=Tryz.sizeOf474
 v66:=Tryz.zeroValue474
 t70:=Tryz.underlying477
 a70:=Tryz.isAgg477
 z70:=Tryz.sizeOf477
 v70:=Tryz.zeroValue477
 t76:=Tryz.underlying485
 a76:=Tryz.isAgg485
 z76:=Tryz.sizeOf485
 v76:=Tryz.zeroValue485
 t77:=Tryz.underlying486
 a77:=Tryz.isAgg486
 z77:=Tryz.sizeOf486
 v77:=Tryz.zeroValue486}
end Go.Proofs
namespace Go.Proofs.YtglmhddbhhcjdaaGreatDoor.Led
open Go.RowKit Go.Maps
def ins (z:Int):List Int ->List Int
 | []=>[z]
 | y::r=>if z<y then z::y::r else if z=y then y::r else y::ins z r
theorem Jg7{z x:Int}:∀ {l:List Int},x∈ins z l↔x=z\/x∈l
 | []=>by simp[ins]
 | y ::r=>by
   unfold ins;by_cases v:z<y
   · rw[qa0 v];simp
   · rw[qay v]
     by_cases w:z=y
     · rw[qa0 w];subst w;simp
     · rw[qay w];simp[Jg7 (l:=r)];constructor<;>(rintro(h | h | h)<;>simp[h])
def Rising (l:List Int):Prop:=l.Pairwise (· < ·)
theorem Jct{z:Int}:∀ {l:List Int},Rising l ->Rising (ins z l)
 | [],_=>by simp[ins,Rising]
 | y ::r,h=>by
   unfold Rising at*;rw[qa9] at h;unfold ins;by_cases v:z<y
   · rw[qa0 v,qa9]
     refine⟨fun x w=> ?_,qa9.2 h⟩;rcases qbb.1 w with rfl | w
     · exact v
     · have:=h.1 x w;omega
   · rw[qay v]
     by_cases u:z=y
     · rw[qa0 u];exact qa9.2 h
     · rw[qay u,qa9]
       refine⟨fun x w=> ?_,Jct h.2⟩;rcases Jg7.1 w with rfl | w
       · omega
       · exact h.1 x w
theorem Jvv{z:Int}:∀ {l:List Int},Rising l ->z∈l ->ins z l=l
 | [],_,h=>by simp at h
 | y ::r,h,hm=>by
   unfold Rising at h;rw[qa9] at h;unfold ins;rcases qbb.1 hm with rfl | hm
   · rw[qay (by omega),qa0 rfl]
   · have:=h.1 z hm
     rw[qay (by omega),qay (by omega),Jvv h.2 hm]
theorem Jl7{z:Int}:∀ {l:List Int},z∉l ->(ins z l).length=l.length+1
 | [],_=>rfl
 | y::r,h=>by
   simp at h;unfold ins;by_cases x:z<y
   · rw[qa0 x];rfl
   · rw[qay x,qay h.1,qa3,Jl7 h.2];rfl
theorem Jdn:∀ {l k:List Int},Rising l ->Rising k ->(∀x,x∈l↔x∈k) ->l=k
 | [],[],_,_,_=>rfl
 | [],y::r,_,_,h=>by have:=(h y).2 (by simp);simp at this
 | y::r,[],_,_,h=>by have:=(h y).1 (by simp);simp at this
 | y ::r,z::s,hl,hk,h=>by
   unfold Rising at hl hk;rw[qa9] at hl hk
   have e:y=z:=by
    have w:=(h y).1 (by simp);have v:=(h z).2 (by simp);rcases qbb.1 w with w | w
    · exact w
    · rcases qbb.1 v with v | v
      · exact v.symm
      · have:=hk.1 y w;have:=hl.1 z v;omega
   subst e;rw[Jdn hl.2 hk.2 (fun x=> ?_)];have:=h x;simp only[qbb] at this;constructor
   · intro u
     rcases this.1 (.inr u) with rfl | t
     · have:=hl.1 x u;omega
     · exact t
   · intro u
     rcases this.2 (.inr u) with rfl | t
     · have:=hk.1 x u;omega
     · exact t
theorem Rising.nodup{l:List Int}(h:Rising l):l.Nodup:=List.Pairwise.imp (fun hh=>by omega) h
section
variable {H:Type}
def setD (us:List Int):DataW H:= .map (us.map fun z=>(.int .i64 z,.agg []))
theorem J6i(a b:Int):(Lit.int .i64 a).sameKey (.int .i64 b)=decide (a=b):=by simp[Lit.sameKey]
theorem Jnn(us:List Int)(z:Int):Maps.has (setD (H:=H) us) (.int .i64 z)=decide (z∈us):=by
 unfold setD;rw[Maps.has_eq,qcg];simp only[List.any_map,List.any_eq_true,Function.comp,J6i,qbc];constructor
 · rintro⟨x,y,rfl⟩;exact y
 · intro h;exact⟨z,h,rfl⟩
theorem Jhw(us:List Int):Maps.size (setD (H:=H) us)=us.length:=by
 unfold setD;rw[Maps.size_eq,qa4]
theorem Jki(us:List Int)(z:Int):((us.map fun z=>((.int .i64 z,.agg []):Lit×DataW H)).filter fun p=> !p.1.sameKey (.int .i64 z))=(us.filter fun x=>decide (x≠z)).map fun z=>(.int .i64 z,.agg []):=by
 rw[List.filter_map]
 congr 1
 apply qb9;intro x _;simp[J6i]
theorem J25(us:List Int)(z:Int):(setD (H:=H) us).del (.int .i64 z)=setD (us.filter fun x=>decide (x≠z)):=by
 unfold setD DataW.del;simp only;rw[Jki]
theorem Jkj(z:Int):∀ {us:List Int},z∉us ->DataW.insert ((.int .i64 z,.agg []):Lit×DataW H) (us.map fun z=>(.int .i64 z,.agg []))=(ins z us).map fun z=>(.int .i64 z,.agg [])
 | [],_=>rfl
 | y ::r,h=>by
   simp at h;unfold ins;simp only[qbz,DataW.insert,Lit.before];by_cases x:z<y
   · simp[x]
   · simp only[x,decide_false,Bool.false_eq_true,if_false,h.1]
     rw[Jkj z h.2];rfl
theorem Jvw(z:Int):∀ {us:List Int},Rising us ->ins z (us.filter fun x=>decide (x≠z))=ins z us:=by
 intro us h;refine Jdn (Jct (List.Pairwise.filter _ h)) (Jct h) (fun x=> ?_);rw[Jg7,Jg7]
 simp
 constructor
 · rintro(rfl | ⟨y,_⟩)
   · exact .inl rfl
   · exact .inr y
 · rintro(rfl | y)
   · exact .inl rfl
   · by_cases e:x=z
     · exact .inl e
     · exact .inr ⟨y,e⟩
theorem Jno(us:List Int)(z:Int)(h:Rising us):(setD (H:=H) us).put (.int .i64 z) (.agg [])=setD (ins z us):=by
 unfold setD DataW.put;simp only;rw[Jki,Jkj z (by simp),Jvw z h]
end
structure Jbn (w:World) (b:Nat) (us:List Int):Prop where
 own:w.ownsMap Tryz.prog 3 (unitElem (H:=Unit)) b us.length (setD us)
 rising:Rising us
theorem Jcu:Keyed Tryz.prog 3:=int_keyed Tryz.underlying3
theorem Jb4{H:Type}{P:Program}{k:TypeId}{R:Value ->Option (DataW H×List MemPlace)}{w:World}{b n:Nat}{D:DataW H}(h:w.ownsMap P k R b n D):w.ownsMap P k R b (Maps.size D) D:=by
 obtain⟨es,clock,y,x,v,z⟩:=h;refine⟨es,clock,y,x,?_,z⟩;rw[z,Maps.size_eq,length_sorted];simp
theorem Jbn.of_own{w:World}{b n:Nat}{us:List Int}(h:w.ownsMap Tryz.prog 3 (unitElem (H:=Unit)) b n (setD us))(hr:Rising us):Jbn w b us:=
 ⟨by have:=Jb4 h;rwa [Jhw] at this,hr⟩
theorem Jbn.new(w:World):Jbn (w.alloc (.map #[] 0)) w.heap.size []:=⟨World.ownsMap_made _ _ _ _,List.Pairwise.nil⟩
theorem Jbn.lt{w:World}{b:Nat}{us:List Int}(h:Jbn w b us):b<w.heap.size:=h.own.lt
theorem Jbn.below{w w':World}{b:Nat}{us:List Int}(h:Jbn w b us){B:Nat}(hb:Below B w w')(hlt:b<B):Jbn w' b us:=by
 obtain⟨es,clock,z,r⟩:=h.own;exact⟨⟨es,clock,(hb.block b hlt).trans z,r⟩,h.rising⟩
theorem Jbn.grown{w w':World}{b:Nat}{us:List Int}{row:Option Nat}(h:Jbn w b us)(hg:w.grownBy w' row)(hne:some b≠row):Jbn w' b us:=⟨h.own.kept hg hne,h.rising⟩
theorem Jbn.alloc{w:World}{b:Nat}{us:List Int}(h:Jbn w b us)(o:Obj):Jbn (w.alloc o) b us:=⟨h.own.alloc o,h.rising⟩
end Go.Proofs.YtglmhddbhhcjdaaGreatDoor.Led
namespace Go.Proofs
open Go.Shelf
def Tryz.keysA_ren:Go.Shelf.Ren:=⟨fun | 7=>148 | 10=>235 | n=>n,fun | 23=>233 | 26=>3 | 3=>234 | 28=>231 | 0=>0 | 27=>230 | 33=>98 | 4=>4 | n=>n,fun | n=>n⟩
theorem Tryz.keysA:Go.Proofs.SlLaysZI.n7 Tryz.prog Tryz.keysA_ren:={
 mixed:=by kernel_rfl
 f7:=⟨Tryz.f148.name,by decide,Tryz.func148.trans (congrArg some (by kernel_rfl))⟩
 f10:=⟨Tryz.f235.name,by decide,Tryz.func235.trans (congrArg some (by kernel_rfl))⟩
 t0:=Tryz.underlying0
 a0:=Tryz.isAgg0
 z0:=Tryz.sizeOf0
 v0:=Tryz.zeroValue0
 t4:=Tryz.underlying4
 a4:=Tryz.isAgg4
 z4:=Tryz.sizeOf4
 v4:=Tryz.zeroValue4
 t23:=Tryz.underlying233
 a23:=Tryz.isAgg233
 z23:=Tryz.sizeOf233
 v23:=Tryz.zeroValue233
 t26:=Tryz.underlying3
 a26:=Tryz.isAgg3
 z26:=Tryz.sizeOf3
 v26:=Tryz.zeroValue3
 t27:=Tryz.underlying230
 a27:=Tryz.isAgg230
 z27:=Tryz.sizeOf230
 v27:=Tryz.zeroValue230
 t28:=Tryz.underlying231
 a28:=Tryz.isAgg231
 z28:=Tryz.sizeOf231
 v28:=Tryz.zeroValue231
 t33:=Tryz.underlying98
 a33:=Tryz.isAgg98
 z33:=Tryz.sizeOf98
 v33:=Tryz.zeroValue98}
def Tryz.sortedA_ren:Go.Shelf.Ren:=⟨fun | 6=>147 | 8=>233 | 9=>234 | 11=>299 | 13=>301 | 12=>300 | 23=>362 | 24=>363 | 14=>353 | 15=>354 | 16=>355 | 17=>356 | 18=>357 | 19=>358 | 20=>359 | 21=>360 | 22=>361 | 25=>397 | 26=>398 | 27=>399 | 28=>400 | 29=>401 | 30=>373 | 31=>416 | n=>n,fun | 26=>3 | 28=>231 | 24=>24 | 0=>0 | 3=>3 | 37=>237 | 48=>341 | 50=>55 | 4=>4 | 40=>445 | 39=>444 | 45=>191 | 5=>5 | 9=>9 | 51=>474 | 55=>477 | 57=>485 | 58=>486 | 33=>98 | n=>n,fun | n=>n⟩
theorem Tryz.sortedA:Go.Proofs.SlLaysZI.n6 Tryz.prog Tryz.sortedA_ren:={
 mixed:=by kernel_rfl
 f6:=⟨Tryz.f147.name,by decide,Tryz.func147.trans (congrArg some (by kernel_rfl))⟩
 f8:=⟨Tryz.f233.name,by decide,Tryz.func233.trans (congrArg some (by kernel_rfl))⟩
 f11:=⟨Tryz.f299.name,by decide,Tryz.func299.trans (congrArg some (by kernel_rfl))⟩
 t0:=Tryz.underlying0
 a0:=Tryz.isAgg0
 z0:=Tryz.sizeOf0
 v0:=Tryz.zeroValue0
 t24:=Tryz.underlying24
 a24:=Tryz.isAgg24
 z24:=Tryz.sizeOf24
 v24:=Tryz.zeroValue24
 t26:=Tryz.underlying3
 a26:=Tryz.isAgg3
 z26:=Tryz.sizeOf3
 v26:=Tryz.zeroValue3
 t28:=Tryz.underlying231
 a28:=Tryz.isAgg231
 z28:=Tryz.sizeOf231
 v28:=Tryz.zeroValue231
 i26:=by kernel_rfl}
def Tryz.sortA_ren:Go.Shelf.Ren:=⟨fun | 5=>234 | 8=>301 | 7=>300 | 19=>362 | 20=>363 | 10=>353 | 11=>354 | 12=>355 | 13=>356 | 14=>357 | 15=>358 | 16=>359 | 17=>360 | 18=>361 | 30=>397 | 31=>398 | 32=>399 | 33=>400 | 34=>401 | 35=>373 | 40=>416 | n=>n,fun | 23=>24 | 25=>3 | 3=>3 | 32=>237 | 22=>24 | 0=>0 | 44=>341 | 46=>55 | 4=>4 | 36=>445 | 35=>444 | 41=>191 | 5=>5 | 9=>9 | 53=>474 | 57=>477 | 63=>485 | 64=>486 | n=>n,fun | n=>n⟩
theorem Tryz.sortA:Go.Proofs.SlLaysM.n5 Tryz.prog Tryz.sortA_ren:={
 mixed:=by kernel_rfl
 f5:=⟨Tryz.f234.name,by decide,Tryz.func234.trans (congrArg some (by kernel_rfl))⟩
 f7:=⟨Tryz.f300.name,by decide,Tryz.func300.trans (congrArg some (by kernel_rfl))⟩
 f8:=Tryz.func301.trans (congrArg some (by kernel_rfl))
 f10:=⟨Tryz.f353.name,by decide,Tryz.func353.trans (congrArg some (by kernel_rfl))⟩
 f11:=⟨Tryz.f354.name,by decide,Tryz.func354.trans (congrArg some (by kernel_rfl))⟩
 f12:=⟨Tryz.f355.name,by decide,Tryz.func355.trans (congrArg some (by kernel_rfl))⟩
 f13:=⟨Tryz.f356.name,by decide,Tryz.func356.trans (congrArg some (by kernel_rfl))⟩
 f14:=⟨Tryz.f357.name,by decide,Tryz.func357.trans (congrArg some (by kernel_rfl))⟩
 f15:=⟨Tryz.f358.name,by decide,Tryz.func358.trans (congrArg some (by kernel_rfl))⟩
 f16:=⟨Tryz.f359.name,by decide,Tryz.func359.trans (congrArg some (by kernel_rfl))⟩
 f17:=⟨Tryz.f360.name,by decide,Tryz.func360.trans (congrArg some (by kernel_rfl))⟩
 f18:=⟨Tryz.f361.name,by decide,Tryz.func361.trans (congrArg some (by kernel_rfl))⟩
 f19:=Tryz.func362.trans (congrArg some (by kernel_rfl))
 f20:=Tryz.func363.trans (congrArg some (by kernel_rfl))
 f30:=⟨Tryz.f397.name,by decide,Tryz.func397.trans (congrArg some (by kernel_rfl))⟩
 f31:=Tryz.func398.trans (congrArg some (by kernel_rfl))
 f32:=Tryz.func399.trans (congrArg some (by kernel_rfl))
 f33:=⟨Tryz.f400.name,by decide,Tryz.func400.trans (congrArg some (by kernel_rfl))⟩
 f34:=⟨Tryz.f401.name,by decide,Tryz.func401.trans (congrArg some (by kernel_rfl))⟩
 f35:=⟨Tryz.f373.name,by decide,Tryz.func373.trans (congrArg some (by kernel_rfl))⟩
 f40:=⟨Tryz.f416.name,by decide,Tryz.func416.trans (congrArg some (by kernel_rfl))⟩
 t0:=Tryz.underlying0
 a0:=Tryz.isAgg0
 z0:=Tryz.sizeOf0
 v0:=Tryz.zeroValue0
 t3:=Tryz.underlying3
 a3:=Tryz.isAgg3
 z3:=Tryz.sizeOf3
 v3:=Tryz.zeroValue3
 t4:=Tryz.underlying4
 a4:=Tryz.isAgg4
 z4:=Tryz.sizeOf4
 v4:=Tryz.zeroValue4
 t5:=Tryz.underlying5
 a5:=Tryz.isAgg5
 z5:=Tryz.sizeOf5
 v5:=Tryz.zeroValue5
 t9:=Tryz.underlying9
 a9:=Tryz.isAgg9
 z9:=Tryz.sizeOf9
 v9:=Tryz.zeroValue9
 t22:=Tryz.underlying24
 a22:=Tryz.isAgg24
 z22:=Tryz.sizeOf24
 v22:=Tryz.zeroValue24
 t23:=Tryz.underlying24
 a23:=Tryz.isAgg24
 z23:=Tryz.sizeOf24
 v23:=Tryz.zeroValue24
 t25:=Tryz.underlying3
 a25:=Tryz.isAgg3
 z25:=Tryz.sizeOf3
 v25:=Tryz.zeroValue3
 t32:=Tryz.underlying237
 a32:=Tryz.isAgg237
 z32:=Tryz.sizeOf237
 v32:=Tryz.zeroValue237
 t35:=Tryz.underlying444
 a35:=Tryz.isAgg444
 z35:=Tryz.sizeOf444
 v35:=Tryz.zeroValue444
 t36:=Tryz.underlying445
 a36:=Tryz.isAgg445
 z36:=Tryz.sizeOf445
 v36:=Tryz.zeroValue445
 t41:=Tryz.underlying191
 a41:=Tryz.isAgg191
 z41:=Tryz.sizeOf191
 v41:=Tryz.zeroValue191
 t44:=Tryz.underlying341
 a44:=Tryz.isAgg341
 z44:=Tryz.sizeOf341
 v44:=Tryz.zeroValue341
 t46:=Tryz.underlying55
 a46:=Tryz.isAgg55
 z46:=Tryz.sizeOf55
 v46:=Tryz.zeroValue55
 t53:=Tryz.underlying474
 a53:=Tryz.isAgg474
 z53:=Tryz.sizeOf474
 v53:=Tryz.zeroValue474
 t57:=Tryz.underlying477
 a57:=Tryz.isAgg477
 z57:=Tryz.sizeOf477
 v57:=Tryz.zeroValue477
 t63:=Tryz.underlying485
 a63:=Tryz.isAgg485
 z63:=Tryz.sizeOf485
 v63:=Tryz.zeroValue485
 t64:=Tryz.underlying486
 a64:=Tryz.isAgg486
 z64:=Tryz.sizeOf486
 v64:=Tryz.zeroValue486}
def Tryz.cloneM_ren:Go.Shelf.Ren:=⟨fun | 5=>202 | 7=>157 | n=>n,fun | 23=>255 | 25=>289 | 3=>140 | 4=>4 | 20=>20 | n=>n,fun | n=>n⟩
theorem Tryz.cloneM:Go.Proofs.SlLaysW.n5 Tryz.prog Tryz.cloneM_ren:={
 mixed:=by kernel_rfl
 f5:=⟨Tryz.f202.name,by decide,Tryz.func202.trans (congrArg some (by kernel_rfl))⟩
 f7:=Tryz.func157.trans (congrArg some (by kernel_rfl))
 t4:=Tryz.underlying4
 a4:=Tryz.isAgg4
 z4:=Tryz.sizeOf4
 v4:=Tryz.zeroValue4
 t20:=Tryz.underlying20
 a20:=Tryz.isAgg20
 z20:=Tryz.sizeOf20
 v20:=Tryz.zeroValue20
 t23:=Tryz.underlying255
 a23:=Tryz.isAgg255
 z23:=Tryz.sizeOf255
 v23:=Tryz.zeroValue255}
end Go.Proofs
namespace Go.Proofs.YtglmhddbhhcjdaaGreatDoor
end Go.Proofs.YtglmhddbhhcjdaaGreatDoor
namespace Go.Proofs
open Go.Shelf
def Tryz.lays169_ren:Go.Shelf.Ren:=⟨fun | 169=>154 | n=>n,fun | 70=>241 | 9=>9 | 0=>0 | 72=>243 | 37=>74 | 127=>346 | 3=>3 | 5=>5 | n=>n,fun | n=>n⟩
theorem Tryz.lays169:Go.Proofs.Lays.n169 Tryz.prog Tryz.lays169_ren:={
 mixed:=by kernel_rfl
 f169:=Tryz.func154.trans (congrArg some (by kernel_rfl))
 t0:=Tryz.underlying0
 a0:=Tryz.isAgg0
 z0:=Tryz.sizeOf0
 v0:=Tryz.zeroValue0
 t3:=Tryz.underlying3
 a3:=Tryz.isAgg3
 z3:=Tryz.sizeOf3
 v3:=Tryz.zeroValue3
 t9:=Tryz.underlying9
 a9:=Tryz.isAgg9
 z9:=Tryz.sizeOf9
 v9:=Tryz.zeroValue9
 t37:=Tryz.underlying74
 a37:=Tryz.isAgg74
 z37:=Tryz.sizeOf74
 v37:=Tryz.zeroValue74
 t70:=Tryz.underlying241
 a70:=Tryz.isAgg241
 z70:=Tryz.sizeOf241
 v70:=Tryz.zeroValue241
 t72:=Tryz.underlying243
 a72:=Tryz.isAgg243
 z72:=Tryz.sizeOf243
 v72:=Tryz.zeroValue243
 t127:=Tryz.underlying346
 a127:=Tryz.isAgg346
 z127:=Tryz.sizeOf346
 v127:=Tryz.zeroValue346}
def Tryz.lays156_ren:Go.Shelf.Ren:=⟨fun | 156=>387 | 165=>151 | 166=>152 | 169=>154 | 240=>239 | 241=>240 | 276=>302 | 277=>303 | n=>n,fun | 31=>23 | 9=>9 | 3=>3 | 4=>4 | 0=>0 | 20=>20 | 72=>243 | 76=>247 | 70=>241 | 37=>74 | 75=>246 | 127=>346 | 164=>409 | 5=>5 | 80=>223 | n=>n,fun | n=>n⟩
theorem Tryz.lays156:Go.Proofs.Lays.n156 Tryz.prog Tryz.lays156_ren:={
 mixed:=by kernel_rfl
 f156:=Tryz.func387.trans (congrArg some (by kernel_rfl))
 f165:=Tryz.func151.trans (congrArg some (by kernel_rfl))
 f166:=Tryz.func152.trans (congrArg some (by kernel_rfl))
 f169:=Tryz.func154.trans (congrArg some (by kernel_rfl))
 f240:=Tryz.func239.trans (congrArg some (by kernel_rfl))
 f241:=Tryz.func240.trans (congrArg some (by kernel_rfl))
 f276:=Tryz.func302.trans (congrArg some (by kernel_rfl))
 f277:=Tryz.func303.trans (congrArg some (by kernel_rfl))
 t0:=Tryz.underlying0
 a0:=Tryz.isAgg0
 z0:=Tryz.sizeOf0
 v0:=Tryz.zeroValue0
 t3:=Tryz.underlying3
 a3:=Tryz.isAgg3
 z3:=Tryz.sizeOf3
 v3:=Tryz.zeroValue3
 t4:=Tryz.underlying4
 a4:=Tryz.isAgg4
 z4:=Tryz.sizeOf4
 v4:=Tryz.zeroValue4
 t9:=Tryz.underlying9
 a9:=Tryz.isAgg9
 z9:=Tryz.sizeOf9
 v9:=Tryz.zeroValue9
 t20:=Tryz.underlying20
 a20:=Tryz.isAgg20
 z20:=Tryz.sizeOf20
 v20:=Tryz.zeroValue20
 t31:=Tryz.underlying23
 a31:=Tryz.isAgg23
 z31:=Tryz.sizeOf23
 v31:=Tryz.zeroValue23
 t37:=Tryz.underlying74
 a37:=Tryz.isAgg74
 z37:=Tryz.sizeOf74
 v37:=Tryz.zeroValue74
 t70:=Tryz.underlying241
 a70:=Tryz.isAgg241
 z70:=Tryz.sizeOf241
 v70:=Tryz.zeroValue241
 t72:=Tryz.underlying243
 a72:=Tryz.isAgg243
 z72:=Tryz.sizeOf243
 v72:=Tryz.zeroValue243
 t75:=Tryz.underlying246
 a75:=Tryz.isAgg246
 z75:=Tryz.sizeOf246
 v75:=Tryz.zeroValue246
 t76:=Tryz.underlying247
 a76:=Tryz.isAgg247
 z76:=Tryz.sizeOf247
 v76:=Tryz.zeroValue247
 t127:=Tryz.underlying346
 a127:=Tryz.isAgg346
 z127:=Tryz.sizeOf346
 v127:=Tryz.zeroValue346
 t164:=Tryz.underlying409
 a164:=Tryz.isAgg409
 z164:=Tryz.sizeOf409
 v164:=Tryz.zeroValue409}
def Tryz.lays103_ren:Go.Shelf.Ren:=⟨fun | 103=>379 | 210=>408 | 206=>238 | n=>n,fun | 9=>9 | 4=>4 | 24=>151 | 3=>3 | n=>n,fun | n=>n⟩
theorem Tryz.lays103:Go.Proofs.Lays.n103 Tryz.prog Tryz.lays103_ren:={
 mixed:=by kernel_rfl
 f103:=Tryz.func379.trans (congrArg some (by kernel_rfl))
 f206:=Tryz.func238.trans (congrArg some (by kernel_rfl))
 f210:=Tryz.func408.trans (congrArg some (by kernel_rfl))
 t3:=Tryz.underlying3
 a3:=Tryz.isAgg3
 z3:=Tryz.sizeOf3
 v3:=Tryz.zeroValue3
 t4:=Tryz.underlying4
 a4:=Tryz.isAgg4
 z4:=Tryz.sizeOf4
 v4:=Tryz.zeroValue4
 t9:=Tryz.underlying9
 a9:=Tryz.isAgg9
 z9:=Tryz.sizeOf9
 v9:=Tryz.zeroValue9
 t24:=Tryz.underlying151
 a24:=Tryz.isAgg151
 z24:=Tryz.sizeOf151
 v24:=Tryz.zeroValue151}
def Tryz.laysM171_ren:Go.Shelf.Ren:=⟨fun | 171=>411 | 243=>422 | 246=>427 | 283=>428 | 284=>429 | 285=>430 | 286=>431 | 129=>363 | 317=>432 | 318=>433 | 319=>434 | 320=>435 | 337=>436 | 338=>437 | n=>n,fun | 3=>3 | 9=>9 | 2=>2 | 4=>4 | 171=>496 | 0=>0 | 53=>55 | 37=>74 | 5=>5 | 173=>498 | 212=>501 | 51=>341 | 20=>20 | 213=>502 | 46=>237 | 232=>503 | 233=>504 | n=>n,fun | 17=>3 | 18=>4 | 19=>5 | n=>n⟩
theorem Tryz.laysM171:Go.Proofs.LaysM.n171 Tryz.prog Tryz.laysM171_ren:={
 mixed:=by kernel_rfl
 f129:=Tryz.func363.trans (congrArg some (by kernel_rfl))
 f171:=Tryz.func411.trans (congrArg some (by kernel_rfl))
 f243:=Tryz.func422.trans (congrArg some (by kernel_rfl))
 f246:=Tryz.func427.trans (congrArg some (by kernel_rfl))
 f283:=Tryz.func428.trans (congrArg some (by kernel_rfl))
 f284:=Tryz.func429.trans (congrArg some (by kernel_rfl))
 f285:=Tryz.func430.trans (congrArg some (by kernel_rfl))
 f286:=Tryz.func431.trans (congrArg some (by kernel_rfl))
 f317:=Tryz.func432.trans (congrArg some (by kernel_rfl))
 f318:=Tryz.func433.trans (congrArg some (by kernel_rfl))
 f319:=Tryz.func434.trans (congrArg some (by kernel_rfl))
 f320:=Tryz.func435.trans (congrArg some (by kernel_rfl))
 f337:=Tryz.func436.trans (congrArg some (by kernel_rfl))
 f338:=Tryz.func437.trans (congrArg some (by kernel_rfl))
 t0:=Tryz.underlying0
 a0:=Tryz.isAgg0
 z0:=Tryz.sizeOf0
 v0:=Tryz.zeroValue0
 t2:=Tryz.underlying2
 a2:=Tryz.isAgg2
 z2:=Tryz.sizeOf2
 v2:=Tryz.zeroValue2
 t3:=Tryz.underlying3
 a3:=Tryz.isAgg3
 z3:=Tryz.sizeOf3
 v3:=Tryz.zeroValue3
 t4:=Tryz.underlying4
 a4:=Tryz.isAgg4
 z4:=Tryz.sizeOf4
 v4:=Tryz.zeroValue4
 t5:=Tryz.underlying5
 a5:=Tryz.isAgg5
 z5:=Tryz.sizeOf5
 v5:=Tryz.zeroValue5
 t9:=Tryz.underlying9
 a9:=Tryz.isAgg9
 z9:=Tryz.sizeOf9
 v9:=Tryz.zeroValue9
 t20:=Tryz.underlying20
 a20:=Tryz.isAgg20
 z20:=Tryz.sizeOf20
 v20:=Tryz.zeroValue20
 t37:=Tryz.underlying74
 a37:=Tryz.isAgg74
 z37:=Tryz.sizeOf74
 v37:=Tryz.zeroValue74
 t46:=Tryz.underlying237
 a46:=Tryz.isAgg237
 z46:=Tryz.sizeOf237
 v46:=Tryz.zeroValue237
 t51:=Tryz.underlying341
 a51:=Tryz.isAgg341
 z51:=Tryz.sizeOf341
 v51:=Tryz.zeroValue341
 t53:=Tryz.underlying55
 a53:=Tryz.isAgg55
 z53:=Tryz.sizeOf55
 v53:=Tryz.zeroValue55
 t171:=Tryz.underlying496
 a171:=Tryz.isAgg496
 z171:=Tryz.sizeOf496
 v171:=Tryz.zeroValue496
 t173:=Tryz.underlying498
 a173:=Tryz.isAgg498
 z173:=Tryz.sizeOf498
 v173:=Tryz.zeroValue498
 t212:=Tryz.underlying501
 a212:=Tryz.isAgg501
 z212:=Tryz.sizeOf501
 v212:=Tryz.zeroValue501
 t213:=Tryz.underlying502
 a213:=Tryz.isAgg502
 z213:=Tryz.sizeOf502
 t232:=Tryz.underlying503
 a232:=Tryz.isAgg503
 z232:=Tryz.sizeOf503
 v232:=Tryz.zeroValue503
 t233:=Tryz.underlying504
 a233:=Tryz.isAgg504
 z233:=Tryz.sizeOf504
 v233:=Tryz.zeroValue504
 g17:=by kernel_rfl
 g18:=by kernel_rfl
 g19:=by kernel_rfl
 i0:=by kernel_rfl
 i2:=by kernel_rfl
 i3:=by kernel_rfl
 i4:=by kernel_rfl
 i5:=by kernel_rfl
 i9:=by kernel_rfl
 i20:=by kernel_rfl
 i37:=by kernel_rfl
 i46:=by kernel_rfl
 i51:=by kernel_rfl
 i53:=by kernel_rfl
 i171:=by kernel_rfl
 i173:=by kernel_rfl
 i212:=by kernel_rfl
 i232:=by kernel_rfl
 i233:=by kernel_rfl
 m17:=by kernel_rfl
 m18:=by kernel_rfl
 m19:=by kernel_rfl}
def Tryz.lays146_ren:Go.Shelf.Ren:=⟨fun | 146=>250 | 221=>314 | 268=>376 | 138=>377 | 143=>378 | 195=>405 | 197=>394 | 218=>406 | 219=>407 | 260=>413 | 217=>418 | 225=>419 | 224=>420 | 267=>421 | 266=>425 | 314=>426 | n=>n,fun | 9=>9 | 31=>23 | 3=>3 | 4=>4 | 0=>0 | 105=>471 | 21=>21 | 5=>5 | 46=>237 | 119=>489 | 139=>492 | 138=>491 | 146=>342 | 51=>341 | n=>n,fun | 1=>0 | 3=>1 | 4=>2 | n=>n⟩
theorem Tryz.lays146:Go.Proofs.Lays.n146 Tryz.prog Tryz.lays146_ren:={
 mixed:=by kernel_rfl
 f138:=Tryz.func377.trans (congrArg some (by kernel_rfl))
 f143:=Tryz.func378.trans (congrArg some (by kernel_rfl))
 f146:=Tryz.func250.trans (congrArg some (by kernel_rfl))
 f195:=Tryz.func405.trans (congrArg some (by kernel_rfl))
 f197:=Tryz.func394.trans (congrArg some (by kernel_rfl))
 f217:=Tryz.func418.trans (congrArg some (by kernel_rfl))
 f218:=Tryz.func406.trans (congrArg some (by kernel_rfl))
 f219:=Tryz.func407.trans (congrArg some (by kernel_rfl))
 f221:=Tryz.func314.trans (congrArg some (by kernel_rfl))
 f224:=Tryz.func420.trans (congrArg some (by kernel_rfl))
 f225:=Tryz.func419.trans (congrArg some (by kernel_rfl))
 f260:=Tryz.func413.trans (congrArg some (by kernel_rfl))
 f266:=Tryz.func425.trans (congrArg some (by kernel_rfl))
 f267:=Tryz.func421.trans (congrArg some (by kernel_rfl))
 f268:=Tryz.func376.trans (congrArg some (by kernel_rfl))
 f314:=Tryz.func426.trans (congrArg some (by kernel_rfl))
 t0:=Tryz.underlying0
 a0:=Tryz.isAgg0
 z0:=Tryz.sizeOf0
 v0:=Tryz.zeroValue0
 t3:=Tryz.underlying3
 a3:=Tryz.isAgg3
 z3:=Tryz.sizeOf3
 v3:=Tryz.zeroValue3
 t4:=Tryz.underlying4
 a4:=Tryz.isAgg4
 z4:=Tryz.sizeOf4
 v4:=Tryz.zeroValue4
 t5:=Tryz.underlying5
 a5:=Tryz.isAgg5
 z5:=Tryz.sizeOf5
 v5:=Tryz.zeroValue5
 t9:=Tryz.underlying9
 a9:=Tryz.isAgg9
 z9:=Tryz.sizeOf9
 v9:=Tryz.zeroValue9
 t21:=Tryz.underlying21
 a21:=Tryz.isAgg21
 z21:=Tryz.sizeOf21
 v21:=Tryz.zeroValue21
 t31:=Tryz.underlying23
 a31:=Tryz.isAgg23
 z31:=Tryz.sizeOf23
 v31:=Tryz.zeroValue23
 t46:=Tryz.underlying237
 a46:=Tryz.isAgg237
 z46:=Tryz.sizeOf237
 v46:=Tryz.zeroValue237
 t51:=Tryz.underlying341
 a51:=Tryz.isAgg341
 z51:=Tryz.sizeOf341
 v51:=Tryz.zeroValue341
 t105:=Tryz.underlying471
 a105:=Tryz.isAgg471
 z105:=Tryz.sizeOf471
 v105:=Tryz.zeroValue471
 t119:=Tryz.underlying489
 a119:=Tryz.isAgg489
 z119:=Tryz.sizeOf489
 t138:=Tryz.underlying491
 a138:=Tryz.isAgg491
 z138:=Tryz.sizeOf491
 v138:=Tryz.zeroValue491
 t139:=Tryz.underlying492
 a139:=Tryz.isAgg492
 z139:=Tryz.sizeOf492
 v139:=Tryz.zeroValue492
 t146:=Tryz.underlying342
 a146:=Tryz.isAgg342
 z146:=Tryz.sizeOf342
 v146:=Tryz.zeroValue342
 g1:=by kernel_rfl
 g3:=by kernel_rfl
 g4:=by kernel_rfl}
theorem Tryz.Builder_Extra_169:Builder.Extra Tryz.prog Tryz.lays169_ren:={
 sizeBuilder:=by kernel_rfl
 liesBuilder:=by kernel_rfl
 t5:=Tryz.underlying5
 a5:=Tryz.isAgg5
 z5:=Tryz.sizeOf5
 v5:=Tryz.zeroValue5
 infoByte:=by kernel_rfl
 cellsByte:=by kernel_rfl
 sizeByte:=by kernel_rfl
 neB5:=by decide}
theorem Tryz.Builder_Extra_156:Builder.Extra Tryz.prog Tryz.lays156_ren:={
 sizeBuilder:=by kernel_rfl
 liesBuilder:=by kernel_rfl
 t5:=Tryz.underlying5
 a5:=Tryz.isAgg5
 z5:=Tryz.sizeOf5
 v5:=Tryz.zeroValue5
 infoByte:=by kernel_rfl
 cellsByte:=by kernel_rfl
 sizeByte:=by kernel_rfl
 neB5:=by decide}
open Go.RowKit in
theorem Tryz.Builder_String_any(B b:Nat)(l:List UInt8)(w:World)(h:Lib.IsBuilder 243 5 B b (Lib.byteCells l) w)(hBw:B<=w.heap.size):
  Calls Tryz.prog 154 #[.pointer (some ⟨b,0,none⟩)] w fun e w'=>e= .returned (.string ⟨l.toArray⟩)/\Below B w w':=Any.Builder_String_any Tryz.lays169 Tryz.Builder_Extra_169 B b l w h hBw
open Go.RowKit in
theorem Tryz.strings_Join(bk o c:Nat)(xs:List ByteArray)(sep:ByteArray)(w:World)(hcells:∀ (j:Nat) x,xs[j]? =some x ->w.cell? ⟨bk,o+j,none⟩=some (.string x))(hbk:bk<w.heap.size)(hN:xs.length<=140737488355328)(hcap:xs.length<=c)(hlen:(Lib.join (xs.map (·.data.toList)) sep.data.toList).length<=140737488355328):
  Calls Tryz.prog 387 #[.slice (some ⟨bk,o,none⟩) xs.length c,.string sep] w fun e w'=>e= .returned (.string ⟨(Lib.join (xs.map (·.data.toList)) sep.data.toList).toArray⟩)/\Below w.heap.size w w':=Any.strings_Join Tryz.lays156 Tryz.Builder_Extra_156 bk o c xs sep w hcells hbk hN hcap hlen
open Go.RowKit in
theorem Tryz.strings_CutPrefix(s p:ByteArray)(w:World):
  Calls Tryz.prog 379 #[.string s,.string p] w fun e w'=>e= .returned (.tuple #[.string ⟨(Lib.trimPrefix s.data.toList p.data.toList).toArray⟩,.bool (Lib.hasPrefix s.data.toList p.data.toList)])/\w'=w:=Any.strings_CutPrefix Tryz.lays103 s p w
open Go.RowKit Go.Sort Go.Lib in
theorem Tryz.strconv_Itoa(n:Int)(h0: -9223372036854775808<=n)(h1:n<=9223372036854775807)(w:World)(htab:Lib.TabIs Tryz.prog w "internal/strconv.uint64pow10" .u64 Lib.pow10Tab):
  Calls Tryz.prog 411 #[.int .i64 n] w fun e w'=>e= .returned (.string ⟨(Lib.itoa n).toArray⟩)/\∃k os,w'=grow (w.drewN k) os:=Any.strconv_Itoa Tryz.laysM171 n h0 h1 w htab
open Go.RowKit Go.Lib in
theorem Tryz.strings_Split(s sep:ByteArray)(m:Int)(w:World)(hs:s.size<4294967281)(hm:w.cell? ⟨0,0,none⟩=some (.int .i64 m))(h1:1<=sep.size):
  Calls Tryz.prog 250 #[.string s,.string sep] w fun e w'=>
   e= .returned (.slice (some ⟨w.heap.size,0,none⟩) (Lib.countB s sep+1) (Lib.countB s sep+1))/\w'=w.alloc (.cells ((Lib.splitB sep 0 (Lib.countB s sep) s).map Value.string).toArray 9):=Any.strings_Split Tryz.lays146 (by kernel_rfl) s sep m w hs hm h1
def Tryz.lays160_ren:Go.Shelf.Ren:=⟨fun | 160=>296 | 232=>347 | 231=>346 | 227=>348 | 234=>350 | 233=>349 | 236=>352 | 235=>351 | 228=>393 | 271=>396 | 151=>395 | 197=>394 | 120=>415 | 152=>414 | 260=>413 | 137=>423 | 119=>424 | 224=>420 | 225=>419 | 217=>418 | 266=>425 | n=>n,fun | 9=>9 | 4=>4 | 3=>3 | 5=>5 | 117=>439 | 116=>438 | 0=>0 | 124=>442 | 21=>21 | 105=>471 | 46=>237 | 119=>489 | 139=>492 | 138=>491 | n=>n,fun | 3=>1 | 4=>2 | n=>n⟩
theorem Tryz.lays160:Go.Proofs.Lays.n160 Tryz.prog Tryz.lays160_ren:={
 mixed:=by kernel_rfl
 f119:=Tryz.func424.trans (congrArg some (by kernel_rfl))
 f120:=Tryz.func415.trans (congrArg some (by kernel_rfl))
 f137:=Tryz.func423.trans (congrArg some (by kernel_rfl))
 f151:=Tryz.func395.trans (congrArg some (by kernel_rfl))
 f152:=Tryz.func414.trans (congrArg some (by kernel_rfl))
 f160:=Tryz.func296.trans (congrArg some (by kernel_rfl))
 f197:=Tryz.func394.trans (congrArg some (by kernel_rfl))
 f217:=Tryz.func418.trans (congrArg some (by kernel_rfl))
 f224:=Tryz.func420.trans (congrArg some (by kernel_rfl))
 f225:=Tryz.func419.trans (congrArg some (by kernel_rfl))
 f227:=Tryz.func348.trans (congrArg some (by kernel_rfl))
 f228:=Tryz.func393.trans (congrArg some (by kernel_rfl))
 f231:=Tryz.func346.trans (congrArg some (by kernel_rfl))
 f232:=Tryz.func347.trans (congrArg some (by kernel_rfl))
 f233:=Tryz.func349.trans (congrArg some (by kernel_rfl))
 f234:=Tryz.func350.trans (congrArg some (by kernel_rfl))
 f235:=Tryz.func351.trans (congrArg some (by kernel_rfl))
 f236:=Tryz.func352.trans (congrArg some (by kernel_rfl))
 f260:=Tryz.func413.trans (congrArg some (by kernel_rfl))
 f266:=Tryz.func425.trans (congrArg some (by kernel_rfl))
 f271:=Tryz.func396.trans (congrArg some (by kernel_rfl))
 t0:=Tryz.underlying0
 a0:=Tryz.isAgg0
 z0:=Tryz.sizeOf0
 v0:=Tryz.zeroValue0
 t3:=Tryz.underlying3
 a3:=Tryz.isAgg3
 z3:=Tryz.sizeOf3
 v3:=Tryz.zeroValue3
 t4:=Tryz.underlying4
 a4:=Tryz.isAgg4
 z4:=Tryz.sizeOf4
 v4:=Tryz.zeroValue4
 t5:=Tryz.underlying5
 a5:=Tryz.isAgg5
 z5:=Tryz.sizeOf5
 v5:=Tryz.zeroValue5
 t9:=Tryz.underlying9
 a9:=Tryz.isAgg9
 z9:=Tryz.sizeOf9
 v9:=Tryz.zeroValue9
 t21:=Tryz.underlying21
 a21:=Tryz.isAgg21
 z21:=Tryz.sizeOf21
 v21:=Tryz.zeroValue21
 t46:=Tryz.underlying237
 a46:=Tryz.isAgg237
 z46:=Tryz.sizeOf237
 v46:=Tryz.zeroValue237
 t105:=Tryz.underlying471
 a105:=Tryz.isAgg471
 z105:=Tryz.sizeOf471
 v105:=Tryz.zeroValue471
 t116:=Tryz.underlying438
 a116:=Tryz.isAgg438
 z116:=Tryz.sizeOf438
 t117:=Tryz.underlying439
 a117:=Tryz.isAgg439
 z117:=Tryz.sizeOf439
 v117:=Tryz.zeroValue439
 t119:=Tryz.underlying489
 a119:=Tryz.isAgg489
 z119:=Tryz.sizeOf489
 t124:=Tryz.underlying442
 a124:=Tryz.isAgg442
 z124:=Tryz.sizeOf442
 v124:=Tryz.zeroValue442
 t138:=Tryz.underlying491
 a138:=Tryz.isAgg491
 z138:=Tryz.sizeOf491
 v138:=Tryz.zeroValue491
 t139:=Tryz.underlying492
 a139:=Tryz.isAgg492
 z139:=Tryz.sizeOf492
 v139:=Tryz.zeroValue492
 g3:=by kernel_rfl
 g4:=by kernel_rfl}
def Tryz.laysM316_ren:Go.Shelf.Ren:=⟨fun | 316=>156 | n=>n,fun | 9=>9 | 3=>3 | 4=>4 | 37=>74 | 0=>0 | 127=>346 | 5=>5 | n=>n,fun | n=>n⟩
theorem Tryz.laysM316:Go.Proofs.LaysM.n316 Tryz.prog Tryz.laysM316_ren:={
 mixed:=by kernel_rfl
 f316:=Tryz.func156.trans (congrArg some (by kernel_rfl))
 t0:=Tryz.underlying0
 a0:=Tryz.isAgg0
 z0:=Tryz.sizeOf0
 v0:=Tryz.zeroValue0
 t3:=Tryz.underlying3
 a3:=Tryz.isAgg3
 z3:=Tryz.sizeOf3
 v3:=Tryz.zeroValue3
 t4:=Tryz.underlying4
 a4:=Tryz.isAgg4
 z4:=Tryz.sizeOf4
 v4:=Tryz.zeroValue4
 t9:=Tryz.underlying9
 a9:=Tryz.isAgg9
 z9:=Tryz.sizeOf9
 v9:=Tryz.zeroValue9
 t37:=Tryz.underlying74
 a37:=Tryz.isAgg74
 z37:=Tryz.sizeOf74
 v37:=Tryz.zeroValue74
 t127:=Tryz.underlying346
 a127:=Tryz.isAgg346
 z127:=Tryz.sizeOf346
 v127:=Tryz.zeroValue346
 t5:=Tryz.underlying5
 a5:=Tryz.isAgg5
 z5:=Tryz.sizeOf5
 v5:=Tryz.zeroValue5
 i0:=by kernel_rfl
 i3:=by kernel_rfl
 i4:=by kernel_rfl
 i5:=by kernel_rfl
 i9:=by kernel_rfl
 i37:=by kernel_rfl
 i127:=by kernel_rfl}
open Go.RowKit in
theorem Tryz.strings_Trim_one(s:ByteArray)(c:UInt8)(hc:c.toNat<128)(w:World)(hs:s.size<=9223372036854775807):
  Calls Tryz.prog 296 #[.string s,.string ⟨#[c]⟩] w fun e w'=>e= .returned (.string ⟨(Lib.trimB s.data.toList c).toArray⟩)/\(w'=w\/w'=w.drew):=Any.strings_Trim_one Tryz.lays160 s c hc w hs
open Go.RowKit in
theorem Tryz.stringslite_Clone(s:ByteArray)(w:World)(hlim:s.size<=281474976710656):
  Calls Tryz.prog 156 #[.string s] w fun e w'=>e= .returned (.string s)/\Below w.heap.size w w':=Any.stringslite_Clone Tryz.laysM316 s w hlim
