/-
  Several texts in one: LedgerOut, LedgerHolds, LedgerDraw, LedgerReturn, LedgerMove, LedgerNew, Kset, Bo, ReachA, Glo, Waln.
-/
import Derived.Maps.Views
import Derived.Lib.LaidTab
import Derived.Lib.ItoaNum
import Derived.Test.YtglmhddbhhcjdaaGreatDoorV16
import Derived.Test.YtglmhddbhhcjdaaGreatDoorV8
import Derived.Test.YtglmhddbhhcjdaaGreatDoorV9
set_option maxRecDepth 100000
set_option linter.unusedSimpArgs false
set_option maxHeartbeats 4000000
namespace Go.Proofs.YtglmhddbhhcjdaaGreatDoor.Led
open Go.RowKit Go.Maps Go.Sort Go.Shelf
theorem Jpu{xs:List Acc}{nm:List UInt8}{F G:Acc ->Acc}(h:∀a,(F a).name=a.name):setA (setA xs nm F) nm G=setA xs nm (fun a=>G (F a)):=by
 unfold setA;rw[qch];apply qcs;intro a _;simp only[Function.comp];by_cases e:a.name=nm
 · rw[qa2 e,qa2 (by rw[h,e]),qa2 e]
 · rw[qav e,qav e,qav e]
theorem Jci{xs:List Acc}{a:Acc}{F:Acc ->Acc}(ha:a∈xs):F a∈setA xs a.name F:=Je1.2 ⟨a,ha,by rw[qa2 rfl]⟩
theorem Ja6.setTo{n:Int}{us us':List Int}{xs:List Acc}(h:Ja6 n us xs)(hp:xs.Pairwise (fun x y=>x.name≠y.name))(hone:∀x∈xs,∀y∈xs,x.name=y.name ->x=y){a:Acc}(ha:a∈xs){F:Acc ->Acc}(hF:∀x,(F x).name=x.name)(h1:0<=(F a).left)(h2:sumL xs - a.left+(F a).left+us'.length<=n)(h3:∀z,z∈us'↔z∈(F a).held\/(z∈us/\z∉a.held))(h4:∀z∈(F a).held,z∈a.held\/z∉us):
  Ja6 n us' (setA xs a.name F):=by
 have key:∀y∈setA xs a.name F,(y=F a)\/(y∈xs/\y.name≠a.name):=by
  intro y s;obtain⟨x,w,rfl⟩:=Je1.1 s;by_cases e:x.name=a.name
  · rw[qa2 e,hone x w a ha e];exact .inl rfl
  · rw[qav e];exact .inr ⟨w,e⟩
 refine⟨fun y s=> ?_,fun y s=> ?_,?_,fun z=> ?_,fun y s y' hy' z v u=> ?_⟩
 · rcases key y s with rfl | ⟨w,_⟩
   · rw[hF];exact h.name a ha
   · exact h.name y w
 · rcases key y s with rfl | ⟨w,_⟩
   · exact h1
   · exact h.pos y w
 · rw[Jjf hp ha rfl];exact h2
 · rw [h3]
   constructor
   · rintro(v | ⟨v,l⟩)
     · exact⟨F a,Jci ha,v⟩
     · obtain⟨x,w,q⟩:=(h.held z).1 v
       refine⟨x,Je1.2 ⟨x,w,?_⟩,q⟩;rw[qav (fun e=>l (by rw[<- hone x w a ha e];exact q))]
   · rintro⟨y,s,v⟩
     rcases key y s with rfl | ⟨w,t⟩
     · exact .inl v
     · exact .inr ⟨(h.held z).2 ⟨y,w,v⟩,fun r=>t (h.once y w a ha z v r)⟩
 · have cross:∀y,y∈xs ->y.name≠a.name ->∀z,z∈(F a).held ->z∈y.held ->False:=by
    intro y w t z v u;rcases h4 z v with r | m
    · exact t (h.once y w a ha z u r)
    · exact m ((h.held z).2 ⟨y,w,u⟩)
   rcases key y s with rfl | ⟨w,t⟩<;>rcases key y' hy' with rfl | ⟨p,o⟩
   · rfl
   · exact(cross y' p o z v u).elim
   · exact(cross y w t z u v).elim
   · exact h.once y w y' p z v u
def Je2 (s:List Int×List Int) (z:Int):List Int×List Int:=if z∈s.1 then (s.1.filter (fun x=>decide (x≠z)),s.2++[z]) else s
def outAll (hs zs:List Int):List Int×List Int:=zs.foldl Je2 (hs,[])
theorem Jkm(hs zs:List Int)(z:Int):outAll hs (zs++[z])=Je2 (outAll hs zs) z:=by simp[outAll,qb0]
structure J88 (hs zs:List Int) (O:List Int×List Int):Prop where
 nodup:O.2.Nodup
 sub:∀z∈O.2,z∈hs/\z∈zs
 left:O.1=hs.filter fun x=>decide (x∉O.2)
 len:O.2.length<=zs.length
 all:∀z∈zs,z∈hs ->z∈O.2
theorem Jpv(hs zs:List Int):J88 hs zs (outAll hs zs):=by
 obtain⟨ys,rfl⟩:∃ys:List Int,zs=ys.reverse:=⟨zs.reverse,by simp⟩
 induction ys with
 | nil=>exact⟨by simp[outAll],by simp[outAll],by simp[outAll];exact(qbv.2 (by simp)).symm,by simp[outAll],by simp⟩
 | cons y r ih=>
   rw[qbw,Jkm];obtain⟨o,n,s,l,m⟩:=ih;generalize outAll hs r.reverse=O at*;have v:y∈O.1↔y∈hs/\y∉O.2:=by rw[s,qbb];simp
   by_cases t:y∈O.1
   · have e:Je2 O y=(O.1.filter (fun x=>decide (x≠y)),O.2++[y]):=qa2 t
     rw[e];obtain⟨q,p⟩:=v.1 t;refine⟨?_,fun z w=> ?_,?_,?_,fun z w hzh=> ?_⟩
     · rw[qdm]
       exact⟨o,by simp,fun a ha b hb e=>by simp at hb;rw[e,hb] at ha;exact p ha⟩
     · rcases qbc.1 w with w | w
       · have:=n z w;exact⟨this.1,by simp at this ⊢;exact .inl this.2⟩
       · simp at w;subst w;exact⟨q,by simp⟩
     · rw[s,List.filter_filter]
       apply qb3;intro x _;rw[qcd]
       simp;exact And.comm
     · simp only[qad,qa3,qbn] at*;omega
     · rcases qbc.1 w with w | w
       · exact qbc.2 (.inl (m z w hzh))
       · simp at w;subst w;simp
   · have e:Je2 O y=O:=qav t
     rw[e];refine⟨o,fun z w=> ?_,s,?_,fun z w hzh=> ?_⟩
     · have:=n z w;exact⟨this.1,by simp at this ⊢;exact .inl this.2⟩
     · simp only[qad,qa3,qbn] at*;omega
     · rcases qbc.1 w with w | w
       · exact m z w hzh
       · simp at w;subst w
         by_cases u:z∈O.2
         · exact u
         · exact absurd (v.2 ⟨hzh,u⟩) t
theorem Jr7(B:Nat)(a:Acc)(A:Option Addr)(k c:Nat)(zs:List Int)(w:World)(h:Jfw w B a)(hz:Ints w .i64 A k zs)(hk:k<=1000000):
  Cs 344 #[a.ab,.slice A k c] w fun e w'=>∃v,e= .returned v/\w'.ownsRow w.heap.size 3 1 v (outAll a.held zs).2.length ((outAll a.held zs).2.map (Value.int .i64))/\Jbm w' a.hb (outAll a.held zs).1/\w.grownBy w' (some a.hb):=by
 have H:=zI hz.len;obtain⟨i0,F,S,R,P⟩:=qbx Jgd;have Y:=qb2 h.blk;have N:a.ab≠a.hb:=h.ne h;go_enter Tryz.func344,Tryz.ntmps344;go_wp2;go_loopw [5,14] (fun v i wr=>∃j:Nat,j<=k/\i= .int .i64 j/\wr.ownsRow w.heap.size 3 1 v (outAll a.held (zs.take j)).2.length ((outAll a.held (zs.take j)).2.map (Value.int .i64))/\Jbm wr a.hb (outAll a.held (zs.take j)).1/\w.grownBy wr (some a.hb)) (fun _ i _=>k - (intOf i).toNat)
 case atStart=>exact⟨0,qaq _,rfl,qax _ _ _ _,h.set,qb8 _ _⟩
 case round=>
  obtain⟨j,C,rfl,y,u,s⟩:=hrel;by_cases M:j<k
  · have K:j<zs.length:=by rw[H.out];exact M
    obtain⟨b,off,rfl,hb,hc⟩:=(Jfl hz s h.set.nocell).get K;have p:=hz.wf _ (qal K);have T:=zI (show outAll a.held (zs.take (j+1))=Je2 (outAll a.held (zs.take j)) zs[j] from by rw[qak K,Jkm]);have G:(outAll a.held (zs.take j)).2.length<=j:=by have:=(Jpv a.held (zs.take j)).len;rw[qap] at this;omega
    have L:wr.cell? ⟨a.ab,1,none⟩=some (.map (some a.hb)):=(qbi (a:=⟨a.ab,1,none⟩) (s.block _ Y (fun e=>N (by injection e)))).trans h.cells.2.1;have E:w.heap.size<=wr.heap.size:=s.size;have J:a.ab<wr.heap.size:=(by omega);generalize outAll a.held (zs.take j)=O at*;generalize zs[j]'K=z at*;by_cases Z:z∈O.1
    · have W:=zI (show Je2 O z=(O.1.filter (fun x=>decide (x≠z)),O.2++[z]) from qa2 Z)
      have I:=zI (qan Z);clear Z;have o:=y.alloc (.cells #[] 234);have n:=u.alloc (.cells #[] 234)
      go_wp2_with (first
       | (at_lookup;refine wpList_lookup_own_unit _ rfl _ _ 233 rfl 3 234 Jcp Tryz.underlying233 (Jj3 _) a.hb _ (setD O.1) rfl u.own _ _ rfl (keyOf_int_mk Tryz.underlying3 p) ?_;rw[Jm7,I.out])
       | (at_delete;refine wpList_delete_own _ rfl _ _ 233 3 rfl 234 Jcp Tryz.underlying233 _ a.hb _ (setD O.1) rfl n.own _ _ rfl (keyOf_int_mk Tryz.underlying3 p) ?_;intro w3 r q
          have m:=q.grown;have l:=o.kept m (.inr (fun e=>by have:=(y.lt _ e).1;have:=h.set.lt;omega));have D:w.heap.size<=w3.heap.size:=by have:=m.size;simp at this;omega
          have g:=Jyb r u.rising;clear r)
       | (at_builtin;refine qdk _ rfl _ _ 24 rfl w.heap.size 3 i0 (0:Int) 1 8 Tryz.underlying24 F S R P rfl (by decide) _ _ _ rfl (l.alloc _) ⟨w3.heap.size,0,none⟩ 1 1 [(z:Int)] rfl rfl (cell_one_new _ _ _) (ints_oneCell _ [z]) ?_ ?_ ?_ ?_
          · unfold maxLen;omega
          · omega
          · simp;omega
          intro v' w4 f t _))
      have d:=(g.alloc (.cells #[(z:Int)] 3)).grown t (fun e=>by have:=(y.lt _ e.symm).1;have:=h.set.lt;omega);have V:=((s.andThen (qbj wr (.cells #[] 234) none) (fun _ e=>nomatch e)).andThen m (fun j e=> .inr (by cases e;rfl))).andThen (qbj w3 (.cells #[(z:Int)] 3) none) (fun _ e=>nomatch e);have U:=V.andThen t (fun j e=> .inl ((y.lt _ e).1));go_roundw
      case rel=>exact⟨j+1,by omega,by go_num,by rw[T.out,W.out];simpa using f,by rw[T.out,W.out];exact d,U⟩
      case measure=>simp[intOf];omega
    · have W:=zI (show Je2 O z=O from qav Z)
      have I:=zI (qae Z);clear Z
      go_wp2_with (first
       | (at_lookup;refine wpList_lookup_own_unit _ rfl _ _ 233 rfl 3 234 Jcp Tryz.underlying233 (Jj3 _) a.hb _ (setD O.1) rfl u.own _ _ rfl (keyOf_int_mk Tryz.underlying3 p) ?_;rw[Jm7,I.out]))
      go_roundw
      case rel=>exact⟨j+1,by omega,by go_num,by rw[T.out,W.out];exact y.alloc _,by rw[T.out,W.out];exact u.alloc _,s.andThen (qbj wr (.cells #[] 234) none) (fun _ e=>nomatch e)⟩
      case measure=>simp[intOf];omega
  · have e1:=zI (show zs.take j=zs from qao (by rw[H.out];omega))
    go_wp2;go_ret;rw[e1.out] at y u;exact⟨_,rfl,y,u,s⟩
def Jfx (o:Option Acc):List Int:=match o with | some a=>a.held | none=>[]
theorem Jad.held_few{w:World}{B g m mm:Nat}{f n:Int}{us:List Int}{xs:List Acc}(h:Jad w B g m mm f n us xs){a:Acc}(ha:a∈xs):(a.held.length:Int)<=n:=by
 have:=Jgc (h.acc a ha).set.rising (a:=f) (b:=f+n) (by have:=h.pool.rng;omega) (fun z hz=>h.pool.ins z (h.sub ha z hz));omega
theorem Jpw{B g m mm:Nat}{f n:Int}{us:List Int}{xs:List Acc}(s:ByteArray)(w:World)(h:Jad w B g m mm f n us xs)(hs:s.size<=maxLen):
  Cs 77 #[g,s] w fun e w'=>∃v,e= .returned v/\w'.ownsRow w.heap.size 3 1 v (Jfx (Jba xs s.data.toList)).length ((Jfx (Jba xs s.data.toList)).map (Value.int .i64))/\Below w.heap.size w w':=by
 cases hf:Jba xs s.data.toList with
 | none=>
   have c:=zI (show Jll (Jba xs s.data.toList)= .pointer none from by rw[hf];rfl);clear hf;go_enter Tryz.func77,Tryz.ntmps77;go_wp2_with (go_at_call 146;refine(Jch s _ h hs).mono ?_;rw[c.out];rintro e w1 ⟨rfl,rfl⟩)
   go_ret;exact⟨_,rfl,qax _ _ _ _,qaa _ _⟩
 | some a=>
   have j:=(Jbr hf).1;refine(callsIn_wide (n:=6)).1 ?_;have k:=h.acc a j;obtain⟨c0,c1,c2⟩:=k.cells;have r:=k.set.lt;have i:=h.held_few j;obtain⟨_,_,q,_⟩:=h.few;have y:Maps.size (setD (H:=Unit) a.held)<=maxLen:=by rw[Jhj];unfold maxLen;omega
   have z:Maps.size (setD (H:=Unit) a.held)*8<=140737488355328:=by rw[Jhj];omega
   have x:SeqGives Fence.wide 2 Tryz.prog 235 #[w.heap.size] encZ (fun ss=>ss.Perm (intKeys (setD (H:=Unit) a.held))) (Maps.size (setD (H:=Unit) a.held)) (w.alloc (.cells #[.map (some a.hb)] 233)):=
    AnyZI.keys_gives (ρ:=Tryz.keysA_ren) {Tryz.keysA with} Fence.wide _ trivial rfl (by omega) w.heap.size a.hb a.held.length (setD a.held) _ (by simp) (by simp) (by
     obtain⟨es,clock,p,Ft,hs,b⟩:=k.set.own;exact⟨es,clock,(Below.heap_alloc _ _ a.hb r).trans p,Ft,hs,b⟩)
   have cK:∀mb W,CallsIn Fence.wide 5 Tryz.prog 148 #[.map mb] W fun e w'=>e= .returned (.func (.func 235) #[] #[W.heap.size])/\w'=W.alloc (.cells #[.map mb] 233):=fun mb W=>AnyZI.keys_in Tryz.keysA Fence.wide 5 trivial rfl mb W;have cS:=AnyZI.sorted_in Tryz.sortedA Fence.wide 5 trivial trivial trivial trivial rfl (by omega) (J80 _) (enters_of Tryz.func234 (by kernel_rfl) rfl) 235 #[w.heap.size] trivial (enters_of Tryz.func235 (by kernel_rfl) rfl) _ _ y z _ x;change CallsIn _ _ Tryz.prog 147 _ _ _ at cS;have Z:Fence.wide.fn 148:=trivial;have Y:Fence.wide.fn 147:=trivial;have V:Fence.wide.fn 146:=trivial
   have cF:CallsIn Fence.wide 5 Tryz.prog 146 #[g,s] w fun e w'=>e= .returned a.ab/\w=w':=
    callsIn_wide.2 ((Jch s w h hs).mono fun e w' ⟨h1,h2⟩=>⟨by rw[h1,hf];rfl,h2⟩)
   clear x y z hf;refine callsIn_of_wp Tryz.func77 rfl trivial ?_ rfl;simp only[Tryz.ntmps77,List.size_toArray,qa3,qbn,Nat.reduceAdd,Nat.reduceSub,Array.replicate_succ,Array.replicate_zero,List.push_toArray,List.append_toArray,qcf,qdp]
   gi_wp2_with (first
    | (gi_at_call 146;refine cF.mono ?_;rintro e w1 ⟨rfl,rfl⟩)
    | (gi_at_call 148;refine(cK _ _).mono ?_;rintro e w' ⟨rfl,rfl⟩)
    | (gi_at_call 147;refine cS.mono ?_;rintro e w' ⟨v,ss,rfl,o,u,d,p⟩))
   go_ret;rw[Jo5] at o;have t:ss.length=a.held.length:=o.length_eq;have l:=sorted_perm k.set.rising o;rw[l,t] at u;exact⟨v,rfl,ownsRow_base_a u (by simp),((qaa _ w).alloc (qab _) _).trans (p.mono (by simp))⟩
end Go.Proofs.YtglmhddbhhcjdaaGreatDoor.Led
namespace Go.Proofs.YtglmhddbhhcjdaaGreatDoor.Led
open Go.RowKit Go.Maps
def Jc8 (xs:List Acc) (nm:List UInt8) (k:Int):Int:=if k<0 then 1 else match Jba xs nm with | none=>8 | some a=>if a.left<k then 20 else 0
def Je3 (f n:Int) (us:List Int) (xs:List Acc) (nm:List UInt8) (k:Int):List Int:=if Jc8 xs nm k=0 then (freeIn f us n.toNat).take k.toNat else []
def J3e (k:Int) (out:List Int) (v:AV):AV:=(v.1,v.2.1 - k,insAll v.2.2 out)
def Jgj (B g m mm:Nat) (f n:Int) (us:List Int) (xs:List Acc) (s:ByteArray) (k:Int) (w:World) (e:Ending) (w':World):Prop:=
 ∃v ys,e= .returned (.tuple #[v,(Jc8 xs s.data.toList k:Int)])/\w'.ownsRow w.heap.size 3 1 v (Je3 f n us xs s.data.toList k).length ((Je3 f n us xs s.data.toList k).map (Value.int .i64))/\
  Jad w' B g m mm f n (insAll us (Je3 f n us xs s.data.toList k)) ys/\view ys=(if Jc8 xs s.data.toList k=0 then setV (view xs) s.data.toList (J3e k (Je3 f n us xs s.data.toList k)) else view xs)/\ys.length=xs.length/\Below B w w'/\∀N,Jay N xs ys
def Kept (w w':World) (m:Nat) (xs:List Acc):Prop:=∀i,i<w.heap.size ->i≠m ->(∀a∈xs,i≠a.ab/\i≠a.hb) ->w'.heap[i]? =w.heap[i]?
theorem Kept.refl(w:World)(m:Nat)(xs:List Acc):Kept w w m xs:=fun _ _ _ _=>rfl
structure DrawLaw (f n:Int) (us:List Int) (k:Int) (O:List Int):Prop where
 nodup:O.Nodup
 fresh:∀z∈O,f<=z/\z<f+n/\z∉us
 len:(O.length:Int)=k
theorem Jyf{f n:Int}{us:List Int}{k:Int}(hn:0<=n)(hr:Rising us)(hi:∀z∈us,f<=z/\z<f+n)(hk:0<=k)(hk2:k<=n - us.length):DrawLaw f n us k ((freeIn f us n.toNat).take k.toNat):=by
 have x:=freeIn_len (f:=f) (us:=us) (n:=n.toNat) hr (fun z hz=>by have:=hi z hz;omega);refine⟨(List.take_sublist _ _).nodup (rising_freeIn f us _).nodup,fun z hz=> ?_,?_⟩
 · have y:=mem_freeIn.1 (qbr hz)
   exact⟨y.1,by have:=y.2.1;omega,y.2.2⟩
 · rw[qap];omega
theorem Jl4(z:Int):∀l:List Int,(ins z l).length<=l.length+1
 | []=>by simp[ins]
 | y::r=>by
   have:=Jl4 z r;unfold ins;split
   · simp
   · split<;>(simp only[qa3];omega)
theorem len_insAll_le:∀ (zs us:List Int),(insAll us zs).length<=us.length+zs.length
 | [],us=>by simp[insAll]
 | z::r,us=>by
   have y:=len_insAll_le r (ins z us);have x:=Jl4 z us;show(insAll (ins z us) r).length<=_;simp only[qa3];omega
theorem Jyg{B g m mm:Nat}{f n:Int}{us:List Int}{xs:List Acc}(s:ByteArray)(k:Int)(w:World)(h:Jad w B g m mm f n us xs)(hs:s.size<=maxLen)(hk: -9223372036854775808<=k/\k<=9223372036854775807)(hB:B<=w.heap.size):
  Cs 292 #[g,s,(k:Int)] w fun e w'=>Jgj B g m mm f n us xs s k w e w'/\Kept w w' m xs:=by
 obtain⟨Hc,Hd⟩:=hk;obtain⟨nm,D⟩:=exE s.data.toList;have Hm:=zI D;clear D;by_cases N:k<0
 · have W:=zI (show Jc8 xs s.data.toList k=1 from qa2 N)
   have M:=zI (show Je3 f n us xs s.data.toList k=[] from qav (by rw[W.out];omega));go_enter Tryz.func292,Tryz.ntmps292;go_wp2_with fail
   go_ret2;unfold Jgj;rw[W.out,M.out];exact⟨⟨_,xs,rfl,qax _ _ _ _,h,rfl,rfl,qaa _ _,fun _=>Jay.refl _ _⟩,Kept.refl _ _ _⟩
 cases hf:Jba xs s.data.toList with
 | none=>
   have W:=zI (show Jc8 xs s.data.toList k=8 from by unfold Jc8;rw[qav N,hf]);have M:=zI (show Je3 f n us xs s.data.toList k=[] from qav (by rw[W.out];omega));have HF:=zI (show Jll (Jba xs s.data.toList)= .pointer none from by rw[hf];rfl);clear hf;go_enter Tryz.func292,Tryz.ntmps292;go_wp2_with (go_at_call 146;refine(Jch s _ h hs).mono ?_;rw[HF.out];rintro e w1 ⟨rfl,rfl⟩)
   go_ret2;unfold Jgj;rw[W.out,M.out];exact⟨⟨_,xs,rfl,qax _ _ _ _,h,rfl,rfl,qaa _ _,fun _=>Jay.refl _ _⟩,Kept.refl _ _ _⟩
 | some a =>
   obtain⟨r,hn⟩:=Jbr hf;have HF:=zI (show Jll (Jba xs s.data.toList)= .pointer (some ⟨a.ab,0,none⟩) from by rw[hf];rfl);obtain⟨c0,c1,c2⟩:=(h.acc a r).cells;obtain⟨l1,l2⟩:=h.left_bd r;by_cases h2:a.left<k
   · have W:=zI (show Jc8 xs s.data.toList k=20 from by unfold Jc8;rw[qav N,hf];exact qa2 h2)
     have M:=zI (show Je3 f n us xs s.data.toList k=[] from qav (by rw[W.out];omega));clear hf hn;go_enter Tryz.func292,Tryz.ntmps292;go_wp2_with (go_at_call 146;refine(Jch s _ h hs).mono ?_;rw[HF.out];rintro e w1 ⟨rfl,rfl⟩)
     go_ret2;unfold Jgj;rw[W.out,M.out];exact⟨⟨_,xs,rfl,qax _ _ _ _,h,rfl,rfl,qaa _ _,fun _=>Jay.refl _ _⟩,Kept.refl _ _ _⟩
   · have W :=zI (show Jc8 xs s.data.toList k=0 from by unfold Jc8;rw[qav N,hf];exact qav h2)
     have L:k<=n - us.length:=by have:=h.few;have:=Jg8 h.pos r;omega
     have C:=h.pool.rng;have HD:=Jyf (f:=f) (n:=n) (us:=us) (k:=k) (by omega) h.pool.set.rising h.pool.ins (by omega) L;obtain⟨O,hO⟩:=exE ((freeIn f us n.toNat).take k.toNat);rw[<- hO] at HD;have M:=zI (show Je3 f n us xs s.data.toList k=O from by rw[hO];exact qa2 W.out);have HT:=zI (show Jc7 f n us k=(O,0) from by unfold Jc7;rw[qav N,qav (by omega),hO]);have HN:=zI hn;have Z:=zI HD;have V:(O.length:Int)=k:=HD.len;have Hn:O.length<=4096:=(by omega);have Ho:=zI V;clear hf hn hO C V HD;go_enter Tryz.func292,Tryz.ntmps292
     go_wp2_with (first
      | (go_at_call 146;refine(Jch s _ h hs).mono ?_;rw[HF.out];rintro e w1 ⟨rfl,rfl⟩)
      | (go_at_call 343;refine(J21 g m f n us k w h.pool ⟨Hc,Hd⟩).mono ?_;rintro e w1 ⟨v,rfl,t,hp,K⟩
         rw[HT.out] at t hp;rw[HT.out];simp only at t hp;obtain⟨A,c,rfl,u⟩:=own_ints t (fun z p=>by have:=Z.out.fresh z p;have:=h.pool.rng;exact wf_i64 (by omega)) (by unfold maxLen;omega);have hJ:=h.mem.pooled hp K;obtain⟨d0,d1,d2⟩:=(hJ.acc a r).cells))
     have Hp:a.hb<w.heap.size:=(h.acc a r).set.lt;have Hq:a.ab<w.heap.size:=qb2 (h.acc a r).blk;have J:a.ab≠a.hb:=(h.acc a r).ne (h.acc a r);have Ha:=hJ.left r (a.left - k);have Hb:w1.grownBy (w1.setCell ⟨a.ab,0,none⟩ (a.left - k:Int)) (some a.ab):=⟨rfl,rfl,rfl,by simp,fun i _ J=>qcu w1 ⟨a.ab,0,none⟩ i _ (fun e=>J (by rw[e]))⟩;have U:=t.kept Hb (.inr (fun e=>by have:=(t.lt _ e).1;omega))
     have S:Kept w (w1.setCell ⟨a.ab,0,none⟩ (a.left - k:Int)) m xs:=fun i hi hm hx=>
      (qcu w1 ⟨a.ab,0,none⟩ i _ (hx a r).1).trans (K.block i hi (fun e=>hm (by injection e)))
     have T:Below B w (w1.setCell ⟨a.ab,0,none⟩ (a.left - k:Int)):=((qaa B w).grown K hB (fun j hj=>by cases hj;exact h.mem.low.2.1)).setCell (h.acc a r).low.1 _;have P:w.heap.size<=(w1.setCell ⟨a.ab,0,none⟩ (a.left - k:Int)).heap.size:=T.size;have He:=zI (h.held_few r);have Hr:=h.few.2.2.1;clear Hb t hp u d0 d1 d2 c0 c1 c2;generalize w1.setCell ⟨a.ab,0,none⟩ (a.left - k:Int)=w2 at*;have o:=Ha.acc _ (Jci r);have I:Jbm w2 a.hb a.held:=o.set;obtain⟨d0,d1,d2⟩:=o.cells;have d1':w2.cell? ⟨a.ab,1,none⟩=some (.map (some a.hb)):=d1;clear d0 d1 d2 o;go_loopw [49] (fun i wr=>∃j:Nat,j<=O.length/\i= .int .i64 j/\Jbm wr a.hb (insAll a.held (O.take j))/\w2.grownBy wr (some a.hb)) (fun i _=>O.length - (intOf i).toNat)
     case atStart=>exact⟨0,qaq _,rfl,I,qb8 _ _⟩
     case round=>
      obtain⟨j,hj,rfl,q,Y⟩:=hrel;have l:=U.kept Y (.inr (fun e=>by have:=(U.lt _ e).1;omega));obtain⟨A',c',hA,u⟩:=own_ints l (fun z p=>by have:=Z.out.fresh z p;have:=h.pool.rng;exact wf_i64 (by omega)) (by unfold maxLen;omega);obtain⟨rfl,_,rfl⟩:=Value.slice.inj hA;by_cases H:j<O.length
      · obtain⟨b,off,rfl,hb,hc⟩:=u.get H
        have Hf:=u.wf _ (qal H);have Hg:wr.cell? ⟨a.ab,1,none⟩=some (.map (some a.hb)):=(qbi (a:=⟨a.ab,1,none⟩) (Y.block _ (by show a.ab<_;omega) (fun e=>J (by injection e)))).trans d1'
        have Hl:(insAll a.held (O.take j)).length<=8192:=by
         have N:=len_insAll_le (O.take j) a.held;have h2:=He.out;rw[qap] at N;omega
        have Hh:=zI (show insAll a.held (O.take (j+1))=ins O[j] (insAll a.held (O.take j)) from by rw[qak H,Jg3]);clear u l hA;go_wp2_with (at_mapUpdate;refine wpList_mapUpdate_own _ rfl _ _ _ 233 rfl 3 234 Jcp Tryz.underlying233 _ a.hb _ (setD (insAll a.held (O.take j))) rfl q.own (by unfold maxLen;omega) _ _ _ rfl rfl (keyOf_int_mk Tryz.underlying3 Hf) _ [] unitElem_mk ?_;intro w3 d R)
        rw[Jm8 _ _ q.rising] at d;have E:Jbm w3 a.hb (insAll a.held (O.take (j+1))):=by rw[Hh.out];exact Jbm.of_own d (Jco q.rising)
        clear d;go_wp2;go_roundw
        case rel=>exact⟨j+1,by omega,by go_num,E,Jas Y R⟩
        case measure=>simp[intOf];omega
      · have Hi:j=O.length:=by omega
        have Hj:=zI (show O.take j=O from qao (by omega));rw[Hj.out] at q;have Hk:=Ha.heldTo (Jci r) q Y;have hd:decide ((j:Int)<(O.length:Int))=false:=qae (by omega);clear Hi u hA;go_wp2_with fail
        go_ret2;unfold Jgj;rw[W.out,M.out];have hS:=Jpu (xs:=xs) (nm:=a.name) (F:=Jel (a.left - k)) (G:=Jem (insAll a.held O)) (fun _=>rfl);refine⟨⟨_,_,rfl,l,⟨Hk,?_⟩,?_,by rw[Jdg,Jdg],T.grown Y (qat hB P) (fun j hj=>by cases hj;exact(h.acc a r).low.2),fun _=>((Jay.refl _ _).toL _ _).toH _ _⟩,fun i hi hm hx=>(Y.block i (qar hi P) (fun e=>(hx a r).2 (by injection e))).trans (S i hi hm hx)⟩
        · show Ja6 n _ (setA (setA xs a.name (Jel (a.left - k))) a.name (Jem (insAll a.held O)))
          rw[hS];refine h.law.setTo h.apart (fun x hx y hy=>h.mem.one hx hy) r (fun _=>rfl) (by show 0<=a.left - k;omega) ?_ (fun z=> ?_) (fun z p=> ?_)
          · rw[length_insAll Z.out.nodup (fun z p=>(Z.out.fresh z p).2.2)]
            show sumL xs - a.left+(a.left - k)+_<=n;have:=h.law.room;have:=Z.out.len;omega
          · show _↔z∈insAll a.held O\/_
            rw[mem_insAll,mem_insAll];have:=h.sub r z;by_cases p:z∈a.held
            · simp[p,this p]
            · simp[p];exact Or.comm
          · rcases mem_insAll.1 (show z∈insAll a.held O from p) with p | p
            · exact .inl p
            · exact .inr (Z.out.fresh z p).2.2
        · show view (setA (setA xs a.name (Jel (a.left - k))) a.name (Jem (insAll a.held O)))=_
          rw[hS,qa2 rfl,<- HN.out];exact Jgh (fun x hx e=>by rw[h.mem.one hx r e];rfl)
theorem J3f{B g m mm:Nat}{f n:Int}{us:List Int}{xs:List Acc}(s:ByteArray)(k:Int)(w:World)(h:Jad w B g m mm f n us xs)(hs:s.size<=maxLen)(hk: -9223372036854775808<=k/\k<=9223372036854775807)(hB:B<=w.heap.size):
  Cs 292 #[g,s,(k:Int)] w fun e w'=>Jgj B g m mm f n us xs s k w e w'/\Chg (LedF m mm xs) w w':=
 (Jyg s k w h hs hk hB).mono fun e w' ⟨h,hk⟩=>by
   refine⟨h,?_⟩;obtain⟨_,_,_,_,_,_,_,z,_⟩:=h;exact⟨z.os,z.tape,z.output,z.size,fun b hlt hn=>hk b hlt (fun e=>hn (.inl e)) (fun a ha=>⟨fun e=>hn (.inr (.inr ⟨a,ha,.inl e⟩)),fun e=>hn (.inr (.inr ⟨a,ha,.inr e⟩))⟩)⟩
def Jhy (xs:List Acc) (nm:List UInt8) (zs:List Int):List Int:=match Jba xs nm with | none=>[] | some a=>(outAll a.held zs).2
def retV (O:List Int) (v:AV):AV:=(v.1,v.2.1+O.length,v.2.2.filter fun x=>decide (x∉O))
def lessU (us O:List Int):List Int:=us.filter fun x=>decide (x∉O)
def Jis (B g m mm:Nat) (f n:Int) (us:List Int) (xs:List Acc) (s:ByteArray) (zs:List Int) (w:World) (e:Ending) (w':World):Prop:=
 ∃ys,e= .returned ((Jhy xs s.data.toList zs).length:Int)/\Jad w' B g m mm f n (lessU us (Jhy xs s.data.toList zs)) ys/\view ys=setV (view xs) s.data.toList (retV (Jhy xs s.data.toList zs))/\ys.length=xs.length/\Chg (LedF m mm xs) w w'/\∀N,Jay N xs ys
theorem Jtx{us O:List Int}(hn:O.Nodup)(hs:∀z∈O,z∈us):(Jbu us O).1=lessU us O/\(Jbu us O).2=(O.length:Int):=by
 have:=Jkl (c:=0) hn hs;unfold Jbu;rw[this];exact⟨rfl,by simp⟩
theorem Jkn{us O:List Int}(hr:us.Nodup)(hn:O.Nodup)(hs:∀z∈O,z∈us):(lessU us O).length+O.length=us.length:=by
 have s:=Jfv (fun x=>decide (x∉O)) us
 have v:(us.filter fun x=> !decide (x∉O)).Perm O:=by
  rw[List.perm_iff_count];intro z;have u:=List.nodup_iff_count.1 (show(us.filter fun x=> !decide (x∉O)).Nodup from List.Pairwise.filter _ hr) z;have t:=List.nodup_iff_count.1 hn z
  have w:z∈(us.filter fun x=> !decide (x∉O))↔z∈O:=by
   rw[qbb];simp;exact fun h=>hs z h
  by_cases y:z∈O
  · have a1:=List.count_pos_iff.2 (w.2 y)
    have a2:=List.count_pos_iff.2 y;omega
  · rw[List.count_eq_zero.2 y,List.count_eq_zero.2 (fun h=>y (w.1 h))]
 have r:=v.length_eq;unfold lessU;omega
theorem Jvs{B g m mm:Nat}{f n:Int}{us:List Int}{xs:List Acc}(s:ByteArray)(A:Option Addr)(k c:Nat)(zs:List Int)(w:World)(h:Jad w B g m mm f n us xs)(hs:s.size<=maxLen)(hz:Ints w .i64 A k zs)(hk:k<=1000000)(_hB:B<=w.heap.size):
  Cs 294 #[g,s,.slice A k c] w (Jis B g m mm f n us xs s zs w):=by
 obtain⟨nm,Z⟩:=exE s.data.toList;have hJ:=zI Z;clear Z;cases hf:Jba xs s.data.toList with
 | none=>
   have N:=zI (show Jhy xs s.data.toList zs=[] from by unfold Jhy;rw[hf]);have M:=zI (show Jll (Jba xs s.data.toList)= .pointer none from by rw[hf];rfl)
   have HV:=zI (show setV (view xs) s.data.toList (retV [])=view xs from by
    have:=Jiq hf;rw[<- Jgh (xs:=xs) (nm:=s.data.toList) (f:=id) (F:=retV []) (fun a u e=>absurd e (this a u)),Jpp this])
   have HU:=zI (show lessU us []=us from qbv.2 (by simp));clear hf;go_enter Tryz.func294,Tryz.ntmps294;go_wp2_with (go_at_call 146;refine(Jch s _ h hs).mono ?_;rw[M.out];rintro e w1 ⟨rfl,rfl⟩)
   go_ret;unfold Jis;rw[N.out,HV.out,HU.out];exact⟨xs,rfl,h,rfl,rfl,Chg.refl _ _,fun _=>Jay.refl _ _⟩
 | some a=>
   obtain⟨u,E⟩:=Jbr hf;have M:=zI (show Jll (Jba xs s.data.toList)= .pointer (some ⟨a.ab,0,none⟩) from by rw[hf];rfl);obtain⟨l1,l2⟩:=h.left_bd u;have OL:=Jpv a.held zs;obtain⟨O,l⟩:=exE ((outAll a.held zs).2);have N:=zI (show Jhy xs s.data.toList zs=O from by unfold Jhy;rw[hf,l]);have L:=zI (show(outAll a.held zs).2=O from l.symm);have K:=zI (show(outAll a.held zs).1=lessU a.held O from by rw[l];exact OL.left);have i:O.Nodup:=by rw[l];exact OL.nodup
   have t:∀z∈O,z∈us:=fun z hz=>h.sub u z (OL.sub z (by rw[<- l];exact hz)).1;have r:∀z∈O,z∈a.held:=fun z hz=>(OL.sub z (by rw[<- l];exact hz)).1;have J:=Jtx i t;have I:=zI J.1;have H:=zI J.2;have Y:=zI (Jkn h.pool.set.rising.nodup i t);have Ha:O.length<=4096:=by have:=Y.out;have:=h.few;omega
   have HN:=zI E;have W:=zI t;have d:=zI r;have Hb:a.hb<w.heap.size:=(h.acc a u).set.lt;have Hc:a.ab<w.heap.size:=qb2 (h.acc a u).blk;have Hd:a.ab≠a.hb:=(h.acc a u).ne (h.acc a u);have D:=h.pool.lt;clear hf E J t r OL l i;go_enter Tryz.func294,Tryz.ntmps294;go_wp2_with (go_at_call 146;refine(Jch s _ h hs).mono ?_;rw[M.out];rintro e w1 ⟨rfl,rfl⟩)
   have C:=h.bel ((qaa w.heap.size w).drew);have V:=hz.below ((qaa w.heap.size w).drew)
   go_region_with (first
    | (go_at_call 344;refine(Jr7 B a A k c zs _ (C.acc a u) V hk).mono ?_;rintro e w2 ⟨v,rfl,q,p,U⟩
       rw[L.out] at q;rw[K.out] at p;obtain⟨A2,c2,rfl,o⟩:=own_ints q (fun z hz=>by have:=h.pool.ins z (W.out z hz);have:=h.pool.rng;exact wf_i64 (by omega)) (by unfold maxLen;omega);have T:=C.mem.heldTo u p U)
    | (go_at_call 345;refine(Jtp g m f n us A2 _ c2 O _ T.pool o).mono ?_;rintro e w3 ⟨rfl,S,R⟩
       rw[H.out];rw[I.out] at S;have P:=T.pooled S R))
   obtain⟨d0,d1,d2⟩:=(P.acc _ (Jci u)).cells;have e0:w3.cell? ⟨a.ab,0,none⟩=some (.int .i64 a.left):=d0;have e2:w3.frozen? ⟨a.ab,0,none⟩=false:=d2;have b:Chg (LedF m mm xs) w w3:=Jdf (Jdf (Chg.of_below (qaa w.heap.size w).drew) U (fun j hj=>by cases hj;exact .inl (LedF.held u))) R (fun j hj=>by cases hj;exact .inl (LedF.pool _ _ _));clear d0 d1 d2 q p o V;go_wp2_with fail
   go_ret;unfold Jis;rw[N.out];have hS:=Jpu (xs:=xs) (nm:=a.name) (F:=Jem (lessU a.held O)) (G:=Jel (a.left+O.length)) (fun _=>rfl);refine⟨setA (setA xs a.name (Jem (lessU a.held O))) a.name (Jel (a.left+O.length)),rfl,⟨P.left (Jci u) _,?_⟩,?_,by rw[Jdg,Jdg],Jye b _ (.inl (LedF.acc u)),fun _=>((Jay.refl _ _).toH _ _).toL _ _⟩
   · rw[hS]
     refine h.law.setTo h.apart (fun x hx y hy=>h.mem.one hx hy) u (fun _=>rfl) (by show 0<=a.left+(O.length:Int);omega) ?_ (fun z=> ?_) (fun z hz=> ?_)
     · show sumL xs - a.left+(a.left+(O.length:Int))+_<=n
       have:=h.law.room;have:=Y.out;omega
     · show z∈lessU us O↔z∈lessU a.held O\/(z∈us/\z∉a.held)
       unfold lessU;rw[qbb,qbb];have h1:=h.sub u z;have h2:=d.out z;simp only[qba];by_cases hz:z∈a.held
       · simp[hz,h1 hz]
       · simp[hz];exact fun _ ho=>hz (h2 ho)
     · exact .inl (qbb.1 (show z∈lessU a.held O from hz)).1
   · rw[hS,<- HN.out]
     exact Jgh (fun x hx e=>by rw[h.mem.one hx u e];rfl)
def Jl5 (vs:List AV) (nm:List UInt8):List AV:=vs.filter fun v=>decide (v.1≠nm)
def Jpx (B g m mm:Nat) (f n:Int) (us:List Int) (xs:List Acc) (s:ByteArray) (w:World) (e:Ending) (w':World):Prop:=
 ∃ys,e= .returned ((Jfx (Jba xs s.data.toList)).length:Int)/\Jad w' B g m mm f n (lessU us (Jfx (Jba xs s.data.toList))) ys/\view ys=Jl5 (view xs) s.data.toList/\ys.length<=xs.length/\Chg (LedF m mm xs) w w'/\∀N,Jay N xs ys
theorem Jvt(xs:List Acc)(nm:List UInt8):view (xs.filter fun a=>decide (a.name≠nm))=Jl5 (view xs) nm:=by
 unfold view Jl5;rw[List.filter_map];rfl
theorem Ji9{xs:List Acc}(h:∀a∈xs,0<=a.left)(nm:List UInt8):0<=sumL (xs.filter fun a=>decide (a.name≠nm))/\sumL (xs.filter fun a=>decide (a.name≠nm))<=sumL xs:=Jgy h _
theorem Jad.closed{w:World}{B g m mm:Nat}{f n:Int}{us:List Int}{xs:List Acc}(h:Jad w B g m mm f n us xs)(nm:List UInt8):Ja6 n (lessU us (Jfx (Jba xs nm))) (xs.filter fun a=>decide (a.name≠nm)):=by
 have sub:∀ {a},a∈(xs.filter fun a=>decide (a.name≠nm)) ->a∈xs/\a.name≠nm:=fun h=>by
  have:=qbb.1 h;exact⟨this.1,qb6 this.2⟩
 have r:(lessU us (Jfx (Jba xs nm))).length<=us.length:=qdg _ _;have q:=Ji9 h.pos nm;refine⟨fun a y=>h.law.name a (sub y).1,fun a y=>h.law.pos a (sub y).1,by have:=h.law.room;omega,fun z=> ?_,fun a y b u=>h.law.once a (sub y).1 b (sub u).1⟩;unfold lessU;rw[qbb,h.law.held z];simp only[qba];constructor
 · rintro⟨⟨a,y,v⟩,x⟩
   refine⟨a,qbb.2 ⟨y,qan (fun e=>x ?_)⟩,v⟩;rw[<- e,h.mem.find y];exact v
 · rintro⟨a,y,v⟩
   obtain⟨t,s⟩:=sub y;refine⟨⟨a,t,v⟩,fun x=> ?_⟩;cases hf:Jba xs nm with
   | none=>rw[hf] at x;simp[Jfx] at x
   | some b=>
     rw[hf] at x;obtain⟨u,e⟩:=Jbr hf;exact s (by rw[<- e];exact h.law.once a t b u z v x)
theorem Jyh{B g m mm:Nat}{f n:Int}{us:List Int}{xs:List Acc}(s:ByteArray)(w:World)(h:Jad w B g m mm f n us xs)(hs:s.size<=maxLen)(_hB:B<=w.heap.size):
  Cs 295 #[g,s] w (Jpx B g m mm f n us xs s w):=by
 obtain⟨O,Z⟩:=exE (Jfx (Jba xs s.data.toList));have R:=zI (show Jfx (Jba xs s.data.toList)=O from Z.symm)
 have u:O.Nodup/\∀z∈O,z∈us:=by
  rw[Z];cases hf:Jba xs s.data.toList with
  | none=>simp[Jfx]
  | some a=>
    obtain⟨N,_⟩:=Jbr hf;exact⟨(h.acc a N).set.rising.nodup,h.sub N⟩
 have Y:=Jtx u.1 u.2;have W:=zI Y.1;have V:=zI Y.2;have U:=zI (Jkn h.pool.set.rising.nodup u.1 u.2);have K:O.length<=4096:=by have:=U.out;have:=h.few;omega
 have l:=zI u.2;have M:=h.pool.lt;have k:=WideMaps.keyOf_string_mk (P:=Tryz.prog) Tryz.underlying9 hs;clear Y u Z;go_enter Tryz.func295,Tryz.ntmps295;go_wp2_with (go_at_call 232;refine(Jhw _ h).mono ?_;rintro e w1 ⟨rfl,rfl⟩)
 have L:=h.bel ((qaa w.heap.size w).drew)
 go_region_with (first
  | (go_at_call 77;refine(Jpw s _ L hs).mono ?_;rintro e w2 ⟨v,rfl,t,i⟩
     rw[R.out] at t;obtain⟨A2,c2,rfl,r⟩:=own_ints t (fun z hz=>by have:=h.pool.ins z (l.out z hz);have:=h.pool.rng;exact wf_i64 (by omega)) (by unfold maxLen;omega);have d:=(L.bel i).mem)
  | (go_at_call 345;refine(Jtp g m f n us A2 _ c2 O _ d.pool r).mono ?_;rintro e w3 ⟨rfl,c,b⟩
     rw[V.out];rw[W.out] at c;have p:=d.pooled c b))
 have c3:=p.c3;have o:Chg (LedF m mm xs) w w3:=Jdf ((Chg.of_below (qaa w.heap.size w).drew).then_below i) b (fun j hj=>by cases hj;exact .inl (LedF.pool _ _ _));clear t r;go_wp2_with (at_delete;refine wpList_delete_own _ rfl _ _ 337 9 rfl 227 Jir Tryz.underlying337 _ mm _ (accD xs) rfl p.own _ _ rfl k ?_;intro w4 x y)
 rw[J23] at x;have T:=p.deleted s.data.toList x y.grown;have S:=y.grown;clear x y;go_wp2_with fail
 go_ret;unfold Jpx;have q:=h.closed s.data.toList;rw[R.out] at q ⊢;exact⟨_,rfl,⟨T,q⟩,Jvt _ _,qdg _ _,Jdf o S (fun j hj=>by cases hj;exact .inl (LedF.map _ _ _)),fun _=>(Jay.refl _ _).sub (fun z hz=>(qbb.1 hz).1)⟩
def Jea (xs:List Acc) (nm:List UInt8) (t:ByteArray) (zs:List Int):List Int:=match Jba xs nm with | none=>[] | some a=>if 1<=t.size/\t.size<=15 then (outAll a.held zs).2 else []
def J3g (O:List Int) (v:AV):AV:=(v.1,v.2.1,lessU v.2.2 O)
def J89 (O:List Int) (v:AV):AV:=(v.1,v.2.1,insAll v.2.2 O)
def Jyi (vs:List AV) (nm t:List UInt8) (O:List Int):List AV:=if O=[] then vs else setV (Jnu (setV vs nm (J3g O)) t) t (J89 O)
def Jhz (B g m mm:Nat) (f n:Int) (us:List Int) (xs:List Acc) (s t:ByteArray) (zs:List Int) (w:World) (e:Ending) (w':World):Prop:=
 ∃ys,e= .returned ((Jea xs s.data.toList t zs).length:Int)/\Jad w' B g m mm f n us ys/\view ys=Jyi (view xs) s.data.toList t.data.toList (Jea xs s.data.toList t zs)/\ys.length<=xs.length+1/\Chg (LedF m mm xs) w w'/\Jay w.heap.size xs ys
theorem Jl6{w:World}{P:Program}{k:TypeId}{R:Value ->Option (DataW Unit×List MemPlace)}{b n:Nat}{D:DataW Unit}(h:w.ownsMap P k R b n D)(o:Nat):w.cell? ⟨b,o,none⟩=none:=by
 obtain⟨es,c,z,_⟩:=h;simp[World.cell?,z]
theorem J3h{B g m mm:Nat}{f n:Int}{us:List Int}{xs:List Acc}(s t:ByteArray)(A:Option Addr)(k c:Nat)(zs:List Int)(w:World)(h:Jad w B g m mm f n us xs)(hs:s.size<=maxLen)(ht:t.size<=maxLen)(hz:Ints w .i64 A k zs)(hk:k<=1000000)(hB:B<=w.heap.size)(hfew:xs.length<1000000):
  Cs 293 #[g,s,t,.slice A k c] w (Jhz B g m mm f n us xs s t zs w):=by
 cases hf:Jba xs s.data.toList with
 | none=>
   have HO:=zI (show Jea xs s.data.toList t zs=[] from by unfold Jea;rw[hf]);have HF:=zI (show Jll (Jba xs s.data.toList)= .pointer none from by rw[hf];rfl);clear hf;go_enter Tryz.func293,Tryz.ntmps293;go_wp2_with (go_at_call 146;refine(Jch s _ h hs).mono ?_;rw[HF.out];rintro e w1 ⟨rfl,rfl⟩)
   go_ret;unfold Jhz;rw[HO.out];exact⟨xs,rfl,h,(qa2 rfl).symm,by omega,Chg.refl _ _,Jay.refl _ _⟩
 | some a =>
   have HF:=zI (show Jll (Jba xs s.data.toList)= .pointer (some ⟨a.ab,0,none⟩) from by rw[hf];rfl);by_cases U:1<=t.size/\t.size<=15
   rotate_left
   · have HO:=zI (show Jea xs s.data.toList t zs=[] from by unfold Jea;rw[hf];exact qav U)
     have HD:=zI (qae U);clear U hf;go_enter Tryz.func293,Tryz.ntmps293
     go_wp2_with (first
      | (go_at_call 146;refine(Jch s _ h hs).mono ?_;rw[HF.out];rintro e w1 ⟨rfl,rfl⟩)
      | (go_at_call 341;refine(Jen t _ ht).mono ?_;rw[HD.out];rintro e w1 ⟨rfl,rfl⟩))
     go_ret;unfold Jhz;rw[HO.out];exact⟨xs,rfl,h,(qa2 rfl).symm,by omega,Chg.refl _ _,Jay.refl _ _⟩
   obtain⟨T,hn⟩:=Jbr hf;have OL:=Jpv a.held zs;obtain⟨O,hO⟩:=exE ((outAll a.held zs).2);have HO:=zI (show Jea xs s.data.toList t zs=O from by unfold Jea;rw[hf,hO];exact qa2 U);have Hb:=zI (show(outAll a.held zs).2=O from hO.symm);have Hc:=zI (show(outAll a.held zs).1=lessU a.held O from by rw[hO];exact OL.left);have Hd:O.Nodup:=by rw[hO];exact OL.nodup
   have d:∀z∈O,z∈a.held:=fun z hz=>(OL.sub z (by rw[<- hO];exact hz)).1;have S:∀z∈O,z∈us:=fun z hz=>h.sub T z (d z hz);have He:=zI (Jkn h.pool.set.rising.nodup Hd S);have Ke:O.length<=4096:=by have:=He.out;have:=h.few;omega
   have HN:=zI hn;have R:=zI S;have F:=zI d;have HD:=zI (qan U);have H2:=zI U;have I:=h.acc a T
   have Hf:Ja6 n (lessU us O) (setA xs a.name (Jem (lessU a.held O))):=by
    refine h.law.setTo h.apart (fun x l y hy=>h.mem.one l hy) T (fun _=>rfl) (h.law.pos a T) ?_ (fun z=> ?_) (fun z hz=> ?_)
    · show sumL xs - a.left+a.left+_<=n
      have:=h.law.room;have:=He.out;omega
    · show z∈lessU us O↔z∈lessU a.held O\/(z∈us/\z∉a.held)
      unfold lessU;rw[qbb,qbb];have h1:=h.sub T z;have U:=F.out z;simp only[qba];by_cases hz:z∈a.held
      · simp[hz,h1 hz]
      · simp[hz];exact fun _ ho=>hz (U ho)
    · exact .inl (qbb.1 (show z∈lessU a.held O from hz)).1
   have Hg:sumL (setA xs a.name (Jem (lessU a.held O)))=sumL xs:=by rw[Jjf h.apart T rfl];show sumL xs - a.left+a.left=_;omega
   have Hh:view (setA xs a.name (Jem (lessU a.held O)))=setV (view xs) a.name (J3g O):=Jgh (fun x l e=>by rw[h.mem.one l T e];rfl);have H:=zI Hf;have Hi:=zI Hg;have P:=zI Hh;clear U hf hn S d OL hO Hd Hf Hg Hh;by_cases h0:O.length=0
   · have Ht:((O.length:Int)==0)=true:=beq_iff_eq.2 (by omega)
     have HE:=zI (qa1 h0);clear h0;go_enter Tryz.func293,Tryz.ntmps293
     go_wp2_with (first
      | (go_at_call 146;refine(Jch s _ h hs).mono ?_;rw[HF.out];rintro e w1 ⟨rfl,rfl⟩)
      | (go_at_call 341;refine(Jen t _ ht).mono ?_;rw[HD.out];rintro e w1 ⟨rfl,rfl⟩)
      | (go_at_call 344;refine(Jr7 B a A k c zs _ I hz hk).mono ?_;rintro e w2 ⟨v,rfl,r,u,Z⟩
         rw[Hb.out] at r;rw[Hc.out] at u;obtain⟨A2,c2,rfl,Y⟩:=own_ints r (fun z hz=>by have:=h.pool.ins z (R.out z hz);have:=h.pool.rng;exact wf_i64 (by omega)) (by unfold maxLen;omega);have L:=h.mem.heldTo T u Z))
     go_ret;unfold Jhz;rw[HO.out];have hE:=HE.out;subst hE;have hl:=H.out;have Hu:lessU us []=us:=qbv.2 (by simp);rw[Hu] at hl;refine⟨_,rfl,⟨L,hl⟩,?_,by rw[Jdg];omega,Jdf (Chg.refl _ _) Z (fun j G=>by cases G;exact .inl (LedF.held T)),(Jay.refl _ _).toH _ _⟩;rw[P.out];show setV (view xs) a.name (J3g [])=if ([]:List Int)=[] then view xs else _;rw[qa2 rfl];unfold setV
     conv=>rhs;rw[<- List.map_id (view xs)]
     apply qcs;intro v _;split
     · show(v.1,v.2.1,lessU v.2.2 [])=v
       rw[show lessU v.2.2 []=v.2.2 from qbv.2 (by simp)]
     · rfl
   · have Ht : ((O.length:Int)==0)=false:=qaw.2 (by omega)
     have Kf:decide ((O.length:Int)=0)=false:=qae (by omega);have HE:=zI (show O≠[] from fun e=>h0 (by rw[e];rfl));have Hj:=Jl6 h.own;go_enter Tryz.func293,Tryz.ntmps293
     go_wp2_with (first
      | (go_at_call 146;refine(Jch s _ h hs).mono ?_;rw[HF.out];rintro e w1 ⟨rfl,rfl⟩)
      | (go_at_call 341;refine(Jen t _ ht).mono ?_;rw[HD.out];rintro e w1 ⟨rfl,rfl⟩)
      | (go_at_call 344;refine(Jr7 B a A k c zs _ I hz hk).mono ?_;rintro e w2 ⟨v,rfl,r,u,Z⟩
         rw[Hb.out] at r;rw[Hc.out] at u;obtain⟨A2,c2,rfl,Y⟩:=own_ints r (fun z hz=>by have:=h.pool.ins z (R.out z hz);have:=h.pool.rng;exact wf_i64 (by omega)) (by unfold maxLen;omega);have L:=h.mem.heldTo T u Z;have Hk:B<=w2.heap.size:=qat hB Z.size;have E:(setA xs a.name (Jem (lessU a.held O))).length<1000000:=by rw[Jdg];exact hfew)
      | (go_at_call 342;refine(Jtv t _ L H2.out Hk E).mono ?_;rintro e w3 ⟨ys,x,rfl,l,Hl,q,N,Hm,Hv,D,Hn⟩
         have K:=Jfl Y D (Jl6 L.own);have Ho:=zI Hl;have Hp:=zI Hm;have Hq:=zI (N _ H.out);clear Hl Hm N))
     have W:Jbm w3 x.hb x.held:=(q.acc x l).set;obtain⟨d0,d1,d2⟩:=(q.acc x l).cells;have Hw:x.ab≠x.hb:=(q.acc x l).ne (q.acc x l);have Hx:x.ab<w3.heap.size:=qb2 (q.acc x l).blk;have C:Chg (LedF m mm xs) w w3:=Jdf (Jdf (Chg.refl _ _) Z (fun j G=>by cases G;exact .inl (LedF.held T))) D (fun j G=>by cases G;exact .inl (LedF.map _ _ _));have Hr:Jay w.heap.size xs ys:=((Jay.refl _ _).toH _ _).trans Hn Z.size;have Kg:B<=w3.heap.size:=qat Hk D.size
     have Hy:=zI (show(x.held.length:Int)<=n from by
      have:=Jgc W.rising (a:=f) (b:=f+n) (by have:=h.pool.rng;omega) (fun z hz=>h.pool.ins z (by
       have:=(Hq.out.held z).2 ⟨x,l,hz⟩;exact(qbb.1 this).1))
      omega)
     have Kh:=h.few.2.2.1;clear Y r u d0 d2 Hj;go_loopw [35] (fun i wr=>∃j:Nat,j<=O.length/\i= .int .i64 j/\Jbm wr x.hb (insAll x.held (O.take j))/\w3.grownBy wr (some x.hb)) (fun i _=>O.length - (intOf i).toNat)
     case atStart=>exact⟨0,qaq _,rfl,W,qb8 _ _⟩
     case round =>
      obtain⟨j,G,rfl,u,o⟩:=hrel;by_cases hJ:j<O.length
      · have p:=Jfl K o W.nocell
        obtain⟨b,off,rfl,hb,hc⟩:=p.get hJ;have Hz:=p.wf _ (qal hJ);have H0:wr.cell? ⟨x.ab,1,none⟩=some (.map (some x.hb)):=(qbi (a:=⟨x.ab,1,none⟩) (o.block _ Hx (fun e=>Hw (by injection e)))).trans d1
        have Kc:(insAll x.held (O.take j)).length<=8192:=by
         have h1:=len_insAll_le (O.take j) x.held;have U:=Hy.out;rw[qap] at h1;omega
        have H9:=zI (show insAll x.held (O.take (j+1))=ins O[j] (insAll x.held (O.take j)) from by rw[qak hJ,Jg3]);clear p;go_wp2_with (at_mapUpdate;refine wpList_mapUpdate_own _ rfl _ _ _ 233 rfl 3 234 Jcp Tryz.underlying233 _ x.hb _ (setD (insAll x.held (O.take j))) rfl u.own (by unfold maxLen;omega) _ _ _ rfl rfl (keyOf_int_mk Tryz.underlying3 Hz) _ [] unitElem_mk ?_;intro w5 V J)
        rw[Jm8 _ _ u.rising] at V;have Ha:Jbm w5 x.hb (insAll x.held (O.take (j+1))):=by rw[H9.out];exact Jbm.of_own V (Jco u.rising)
        clear V;go_wp2;go_roundw
        case rel=>exact⟨j+1,by omega,by go_num,Ha,Jas o J⟩
        case measure=>simp[intOf];omega
      · have Ka :=zI (show O.take j=O from qao (by omega))
        rw[Ka.out] at u;have Kb:=q.heldTo l u o;have hd:decide ((j:Int)<(O.length:Int))=false:=qae (by omega);go_wp2_with fail
        go_ret;unfold Jhz;rw[HO.out];have hv:=Hp.out;have hL:=Hq.out;have Kd:sumL ys=sumL xs:=(by rw[sumV,hv,Jps,<- sumV,Hi.out]);refine⟨_,rfl,⟨Kb,?_⟩,?_,by rw[Jdg];have:=Hv;rw[Jdg] at this;exact this,Jdf C o (fun j G=>by cases G;exact Hr.inF (LedF.held l)),Hr.toH _ _⟩
        · refine hL.setTo q.apart (fun y hy z hz=>q.one hy hz) l (fun _=>rfl) (hL.pos x l) ?_ (fun z=> ?_) (fun z hz=> ?_)
          · show sumL ys - x.left+x.left+_<=n
            have:=h.law.room;omega
          · show z∈us↔z∈insAll x.held O\/(z∈lessU us O/\z∉x.held)
            have h1:z∈x.held ->z∈us:=fun hz=>(qbb.1 ((hL.held z).2 ⟨x,l,hz⟩)).1;have U:=R.out z;rw[mem_insAll];unfold lessU;rw[qbb];simp only[qba];constructor
            · intro hz
              by_cases M:z∈O
              · exact .inl (.inr M)
              · by_cases h4:z∈x.held
                · exact .inl (.inl h4)
                · exact .inr ⟨⟨hz,M⟩,h4⟩
            · rintro((M | M) | ⟨⟨M,_⟩,_⟩)
              · exact h1 M
              · exact U M
              · exact M
          · rcases mem_insAll.1 (show z∈insAll x.held O from hz) with hz | hz
            · exact .inl hz
            · refine .inr (fun M=> ?_)
              have:=(qbb.1 M).2;simp at this;exact this hz
        · unfold Jyi
          rw[qav HE.out,<- HN.out,<- P.out,<- Ho.out];have Hs:=Hp.out;rw[<- Ho.out] at Hs;rw[<- Hs];exact Jgh (fun y hy e=>by rw[q.one hy l e];rfl)
def Jyj (from_ n:Int) (w:World) (e:Ending) (w':World):Prop:=
 ∃g m mm f k,e= .returned (g:Nat)/\Jad w' w.heap.size g m mm f k [] []/\Below w.heap.size w w'/\
  f=max from_ 0/\k=if from_<0\/4096<from_\/n<0 then 0 else min n 4096
theorem Jyk{w1:World}{B g0 m:Nat}{f k:Int}(h:Jax w1 g0 m f k [])(hB:B<=w1.heap.size)(hm:B<=m):
  Jad ((w1.alloc (.map #[] 0)).alloc (.cells #[(f:Int),(k:Int),.map (some m),.map (some w1.heap.size)] 339)) B (w1.heap.size+1) m w1.heap.size f k [] []:=by
 have x:=(h.below ((qaa _ _).alloc (qab _) (.map #[] 0))).below ((qaa _ _).alloc (qab _) (.cells #[(f:Int),(k:Int),.map (some m),.map (some w1.heap.size)] 339))
 have z:((w1.alloc (.map #[] 0)).alloc (.cells #[(f:Int),(k:Int),.map (some m),.map (some w1.heap.size)] 339)).heap[w1.heap.size+1]? =some (.cells #[(f:Int),(k:Int),.map (some m),.map (some w1.heap.size)] 339 (0,0)):=by
  have:=qcg (w1.alloc (.map #[] 0)) (.cells #[(f:Int),(k:Int),.map (some m),.map (some w1.heap.size)] 339);simpa using this
 have y:=h.set.lt;refine⟨⟨⟨⟨_,_,z⟩,x.set,h.rng,by simp⟩,qb1 _ _ 3 _ _ _ z,(World.ownsMap_made w1 _ _ _).alloc _,by simp,by simp,by simp,by simp,by omega,by omega,hm,hB⟩,⟨by simp,by simp,?_,by simp,by simp⟩⟩;have:=h.rng;simp[sumL];omega
theorem J3i(from_ n:Int)(w:World)(hf: -9223372036854775808<=from_/\from_<=9223372036854775807):
  Cs 160 #[(from_:Int),(n:Int)] w (Jyj from_ n w):=by
 have u:=@run_makeMap Tryz.prog;go_enter Tryz.func160,Tryz.ntmps160
 go_wp2_with (first
  | (go_at_call 244;refine(J6a _ _ _ hf).mono ?_;rintro e w1 ⟨g0,m,f,k,rfl,x,z,t,s,y,v⟩
     obtain⟨c0,c1,c2⟩:=x.cells;have r:=zI y;have q:=zI v;clear y v))
 go_ret;exact⟨_,m,_,f,k,rfl,Jyk x z.size s,(z.alloc z.size _).alloc (by have:=z.size;simp;omega) _,r.out,q.out⟩
end Go.Proofs.YtglmhddbhhcjdaaGreatDoor.Led
namespace Go.Proofs.YtglmhddbhhcjdaaGreatDoor
open Go.RowKit Go.Maps
structure KSet (w:World) (k:TypeId) (b:Nat) (ks:List Lit):Prop where
 own:∃D:DataW Unit,w.ownsMap Tryz.prog k (unitElem (H:=Unit)) b ks.length D/\Maps.size D=ks.length/\∀l,Maps.has D l=true ->l∈ks
section
variable {w w':World} {k:TypeId} {b:Nat} {ks:List Lit}
theorem KSet.lt(h:KSet w k b ks):b<w.heap.size:=by obtain⟨D,z,_⟩:=h.own;exact z.lt
theorem KSet.grown{row:Option Nat}(h:KSet w k b ks)(hg:w.grownBy w' row)(hne:some b≠row):KSet w' k b ks:=by
 obtain⟨D,z,y⟩:=h.own;exact⟨D,z.kept hg hne,y⟩
theorem KSet.below(h:KSet w k b ks)(hb:Below w.heap.size w w'):KSet w' k b ks:=h.grown (Jaa hb none) (by simp)
theorem KSet.made(w:World)(k:TypeId):KSet (w.alloc (.map #[] 0)) k w.heap.size []:=⟨.map [],World.ownsMap_made w _ _ _,by rw[Maps.size_eq];rfl,fun l h=>by rw[Maps.has_eq] at h;simp at h⟩
theorem Jty{ops:Array Oper}{rest:List Oper}{o:Oper}{a:Act}{Q:Exit ->Act ->World ->Prop}{t e:TypeId}(hg:o.guard=none)(m x v:Operand)(hop:o.op=Op.mapUpdate t m x v)(K:Keyed Tryz.prog k)(ht:Tryz.prog.underlying t=some (.map k e))(hm:a.eval m= .map (some b))(h:KSet w k b ks)(hn:ks.length<1000000)(key:Value)(kl:Lit)(hx:a.eval x=key)(hv:a.eval v= .agg #[])(hkey:keyOf Tryz.prog k key=some kl)(hne:kl∉ks)(hK:∀w',KSet w' k b (ks++[kl]) ->w.grownBy w' (some b) ->wpList Tryz.prog ops Q rest (a.put o.dst undef) w'):wpList Tryz.prog ops Q (o::rest) a w:=by
 obtain⟨D,z,u,y⟩:=h.own
 have s:Maps.has D kl=false:=by
  cases e:Maps.has D kl with
  | false=>rfl
  | true=>exact absurd (y _ e) hne
 refine wpList_mapUpdate_in w hg m x v t hop k e K ht _ b _ D hm z (by unfold maxLen;omega) key (.agg #[]) kl hx hv hkey (.agg []) [] unitElem_mk (fun w' r1 r2=>hK w' ⟨D.put kl (.agg []),?_,?_,fun l hl=> ?_⟩ r2.grown)
 · rw[qad];exact r1
 · rw[Maps.size_put (z.tidy K),s,qad];simp[u]
 · by_cases e:l=kl
   · rw[e];simp
   · rw[Maps.has_put_other e] at hl
     exact List.mem_append_left _ (y _ hl)
theorem KSet.len(h:KSet w k b ks){t e:TypeId}(ht:Tryz.prog.underlying t=some (.map k e))(ty:TypeId):(Builtin.len_ #[t] ty #[.map (some b)]).run Tryz.prog w= .ok (ks.length:Int) w:=by
 obtain⟨D,z,y,_⟩:=h.own;rw[z.len ht ty,y]
end
def plit (a b:Int):Lit:= .string (keyBytes [.int .i64 a,.int .i64 b])
theorem Jtz:Keyed Tryz.prog 464:=Keyed.of_law (deep_law_laid (by kernel_rfl) (m:=3) (by omega) (qb6 (by kernel_rfl)) (by kernel_rfl) (by kernel_rfl))
theorem Jnv{a b:Int}(ha:(Lit.int .i64 a).wf=true)(hb:(Lit.int .i64 b).wf=true):keyOf Tryz.prog 464 (.agg #[(a:Int),(b:Int)])=some (plit a b):=by
 obtain⟨m,y⟩:∃m,Tryz.prog.types.size=m+2:=by
  have h:1<Tryz.prog.types.size:=qb6 (by kernel_rfl);exact⟨Tryz.prog.types.size - 2,by omega⟩
 have x:Tryz.prog.keyType 464=true:=by kernel_rfl
 have z:Tryz.prog.cellsOf 464=2:=by kernel_rfl
 have c3:Tryz.prog.cellsOf 3=1:=by kernel_rfl
 have w:(Value.agg #[(a:Int),(b:Int)]).formed Tryz.prog 464=true:=by
  simp[Value.formed,Tryz.underlying464,z]
 have v:Tryz.prog.keyLits (Tryz.prog.types.size+1) 464 (Value.agg #[.int .i64 a,.int .i64 b]).cells.toList=some [.int .i64 a,.int .i64 b]:=by
  rw[y];simp[Program.keyLits,Value.cells,Tryz.underlying464,Tryz.underlying3,z,c3,ha,hb,show List.range 2=[0,1] from rfl]
 unfold keyOf;rw[Tryz.underlying464];simp only[x,w,Bool.and_self,if_true,v,Option.map_some];rfl
theorem J3j{a b c d:Int}(ha:(Lit.int .i64 a).wf=true)(hb:(Lit.int .i64 b).wf=true)(hc:(Lit.int .i64 c).wf=true)(hd:(Lit.int .i64 d).wf=true)(h:plit a b=plit c d):a=c/\b=d:=by
 have y:=Jnv ha hb;have z:=Jnv hc hd;rw[<- h] at z;have:=Jtz.inj y z
 simpa using this
end Go.Proofs.YtglmhddbhhcjdaaGreatDoor
namespace Go.Proofs.YtglmhddbhhcjdaaGreatDoor
open Go.RowKit
structure Bo (w:World) (g:Nat) (cs:Array Value):Prop where
 ex:∃T more,Bx w g T (cs++more)
section
variable {w w':World} {g:Nat} {cs:Array Value} {F:Nat ->Prop}
theorem Bo.of{T:TypeId}(h:Bx w g T cs):Bo w g cs:=⟨T,#[],by simpa using h⟩
theorem Bo.lt(h:Bo w g cs):g<w.heap.size:=by obtain⟨T,more,h⟩:=h.ex;exact h.lt
theorem Bo.at_(h:Bo w g cs)(i:Nat){v:Value}(e:cs[i]? =some v):w.cell? ⟨g,i,none⟩=some v:=by
 obtain⟨T,more,h⟩:=h.ex;have z:i<cs.size:=(qdd.1 e).1;exact h.at_ i (by rw[Array.getElem?_append_left z];exact e)
theorem Bo.free(h:Bo w g cs)(i:Nat):w.frozen? ⟨g,i,none⟩=false:=by obtain⟨T,more,h⟩:=h.ex;exact h.free i
theorem Bo.below(h:Bo w g cs)(hb:Below w.heap.size w w'):Bo w' g cs:=by obtain⟨T,more,h⟩:=h.ex;exact⟨T,more,h.below hb⟩
theorem Bo.alloc(h:Bo w g cs)(o:Obj):Bo (w.alloc o) g cs:=h.below ((qaa _ _).alloc (qab _) o)
theorem Bo.drew(h:Bo w g cs):Bo w.drew g cs:=h.below ((qaa _ _).drew)
theorem Bo.set(h:Bo w g cs)(i:Nat)(u:Value)(hi:i<cs.size:=by first | decide | simp):Bo (w.setCell ⟨g,i,none⟩ u) g (cs.setIfInBounds i u):=by
 obtain⟨T,more,h⟩:=h.ex;refine⟨T,more,?_⟩;have:=h.set i u
 rwa [Array.setIfInBounds_append_left hi] at this
theorem Bo.grown(h:Bo w g cs){row:Option Nat}(hg:w.grownBy w' row)(hne:some g≠row):Bo w' g cs:=by obtain⟨T,more,h⟩:=h.ex;exact⟨T,more,h.grown hg hne⟩
theorem Bo.chg(h:Bo w g cs)(hc:Chg F w w')(hn: ¬ F g):Bo w' g cs:=by obtain⟨T,more,h⟩:=h.ex;exact⟨T,more,h.chg hc hn⟩
def Tl (g:Nat) (w w':World):Prop:=∀T cs,Bx w g T cs ->∃cs':Array Value,Bx w' g T cs'/\cs'.size=cs.size/\∀k:Nat,14<=k ->cs'[k]? =cs[k]?
theorem Tl.refl(g:Nat)(w:World):Tl g w w:=fun _ cs h=>⟨cs,h,rfl,fun _ _=>rfl⟩
theorem Tl.of_below(g:Nat)(hb:Below w.heap.size w w'):Tl g w w':=fun _ cs h=>⟨cs,h.below hb,rfl,fun _ _=>rfl⟩
theorem Tl.of_chg(hc:Chg F w w')(hn: ¬ F g):Tl g w w':=fun _ cs h=>⟨cs,h.chg hc hn,rfl,fun _ _=>rfl⟩
theorem Tl.set(g:Nat)(w:World)(k:Nat)(u:Value)(hk:k<14):Tl g w (w.setCell ⟨g,k,none⟩ u):=fun _ cs h=>⟨_,h.set k u,by simp,fun j hj=>by rw[Array.getElem?_setIfInBounds_ne (by omega)]⟩
theorem Tl.trans{w1:World}(h:Tl g w w1)(k:Tl g w1 w'):Tl g w w':=fun T cs hx=>by
 obtain⟨c1,z,s1,e1⟩:=h T cs hx;obtain⟨c2,y,s2,e2⟩:=k T c1 z;exact⟨c2,y,s2.trans s1,fun j hj=>(e2 j hj).trans (e1 j hj)⟩
theorem Bo.blk(h:Bo w g cs):∃cs' T,w.heap[g]? =some (.cells cs' T (0,0)):=by obtain⟨T,more,h⟩:=h.ex;exact⟨_,_,h.blk⟩
end
open Go.ChangeAt Go.ChangeShapes Go.Deep Go.WideShapes
def Rch.all (r:Rch):List Int:=(List.range r.ts.length).map r.from_
theorem Rch.all_len(r:Rch):r.all.length=r.ts.length:=by simp[Rch.all]
theorem J62(A:Option Addr)(n c:Nat)(B:Option Addr)(m d:Nat)(r:Rch)(w:World)(h:Jef w A n B m r)(hn:n<=1000):
  Cs 374 #[rchV r.now r.nm A n c B m d] w fun e w'=>∃v,e= .returned v/\w'.ownsRow w.heap.size 3 1 v n (r.all.map (Value.int .i64))/\Below w.heap.size w w':=by
 have N:=zI h;have M:=zI h.ts.len;have o:=(qaa w.heap.size w).alloc (qab _) (.cells #[(r.now:Int),r.nm,.slice A n c,.slice B m d] 161);have l:=Bx.new w 161 #[(r.now:Int),r.nm,.slice A n c,.slice B m d];have Y:=zI o;have W:=zI l;clear h o l;go_enter Tryz.func374,Tryz.ntmps374;go_wp2_with fail
 go_loopw [3,9] (fun v i wr=>∃k:Nat,k<=n/\i= .int .i64 (k:Int)/\wr.ownsRow w.heap.size 3 1 v k (((List.range k).map r.from_).map (Value.int .i64))/\Bx wr w.heap.size 161 #[(r.now:Int),r.nm,.slice A n c,.slice B m d]/\Below w.heap.size w wr) (fun _ i _=>n - (intOf i).toNat)
 case atStart=>exact⟨0,qaq _,rfl,qax _ _ _ _,W.out,Y.out⟩
 case round=>
  obtain⟨k,H,rfl,y,t,j⟩:=hrel;by_cases V:k<n
  · have L:=zI (Jg1 A n c B m d r k wr (N.out.below j) (by omega) V)
    have U:=zI (show((List.range k).map r.from_).map (Value.int .i64)++[Value.int .i64 (r.from_ k)]=((List.range (k+1)).map r.from_).map (Value.int .i64) from by rw[qb9,qbf,qbf];rfl);generalize r.from_ k=z at*;have T:=zI (show ∀u∈[Value.int .i64 z],u.oneCell'=true from by intro u K;rw[qaz.1 K];rfl);have J:=zI (show k+1<=1000000 from by omega);have s0:=t.at_ 0 rfl;have s1:=t.at_ 1 rfl;have s2:=t.at_ 2 rfl;have s3:=t.at_ 3 rfl;have I:=zI t;have S:=zI y;have Z:=zI j;clear y t j;go_wp2_with fail
    refine L.out.mono ?_;rintro e w2 ⟨rfl,s⟩;have x:=s.alloc s.size (.cells #[(z:Int)] 3);have q:=zI (Jah S.out x);have g:=zI (I.out.below x);have p:=zI (Z.out.trans (x.mono Z.out.size));have R:=zI (Sl.new w2 3 w2.heap.size [(z:Int)] #[(z:Int)] rfl rfl);clear s x s0 s1 s2 s3;go_wp2_with (at_builtin;refine Jxj rfl _ _ rfl q.out rfl (some ⟨w2.heap.size,0,none⟩) 1 1 _ rfl rfl R.out T.out J.out p.out.size ?_;intro A' c' w5 f b)
    have P:=Jbw q.out b p.out p.out.size;rw[U.out] at f;have O:=g.out.grown b (g.out.not_row q.out (by decide));go_roundw
    case rel=>exact⟨k+1,by omega,by go_num,f,O,P⟩
    case measure=>simp[intOf];omega
  · have a:k=n:=by omega
    have U:=zI (show((List.range k).map r.from_)=r.all from by unfold Rch.all;rw[M.out,a]);rw[U.out] at y;subst a;have S:=zI y;have Z:=zI j;obtain⟨Av,cv,rfl,_⟩:=Jap y;clear y t j;go_wp2_with fail
    go_ret;exact⟨_,rfl,S.out,Z.out⟩
end Go.Proofs.YtglmhddbhhcjdaaGreatDoor
namespace Go.Proofs.YtglmhddbhhcjdaaGreatDoor
open Go.RowKit
def gB:Nat:=3+1
theorem J9a:0<gB:=by decide
structure Glo (w:World):Prop where
 m:∃m:Int,w.cell? ⟨0,0,none⟩=some (.int .i64 m)
 tab:Lib.TabIs Tryz.prog w "internal/strconv.uint64pow10" .u64 Lib.pow10Tab
theorem Glo.of_eq{w w':World}(h:Glo w)(he:∀b,b<w.heap.size ->b<gB ->w'.heap[b]? =w.heap[b]?)(hg:∀g,Tryz.prog.globalNamed "internal/strconv.uint64pow10"=some g ->g<gB):Glo w':=by
 refine⟨?_,?_⟩
 · obtain⟨m,x⟩:=h.m
   have v:=block_lt_of_cell x;exact⟨m,(qbi (w:=w) (a:=⟨0,0,none⟩) (he 0 v J9a)).trans x⟩
 · have z:=h.tab
   unfold Lib.TabIs at z ⊢;unfold World.var? at z ⊢;cases hn:Tryz.prog.globalNamed "internal/strconv.uint64pow10" with
   | none=>rw[hn] at z;simp at z
   | some g=>
     rw[hn] at z;simp only[Option.bind_some] at z ⊢
     have y:g<w.heap.size:=by
      cases hb:w.heap[g]? with
      | none=>rw[hb] at z;simp at z
      | some o=>exact(qdd.1 hb).1
     rw[he g y (hg g hn)];exact z
theorem Jyl:∀g,Tryz.prog.globalNamed "internal/strconv.uint64pow10"=some g ->g<gB:=by
 intro g z;have h:(Tryz.prog.globalNamed "internal/strconv.uint64pow10").all (fun g=>decide (g<gB))=true:=by kernel_rfl
 rw[z] at h
 simpa using h
theorem Glo.below{w w':World}(h:Glo w)(hb:Below w.heap.size w w'):Glo w':=h.of_eq (fun b hlt _=>hb.block b hlt) Jyl
theorem Glo.chg{w w':World}{F:Nat ->Prop}(h:Glo w)(hc:Chg F w w')(hF:∀b,F b ->gB<=b):Glo w':=h.of_eq (fun b hlt h2=>hc.block b hlt (fun hf=>by have:=hF b hf;omega)) Jyl
theorem Glo.low{w:World}(h:Glo w):gB<=w.heap.size:=by
 have z:=h.tab;unfold Lib.TabIs World.var? at z;have y:Tryz.prog.globalNamed "internal/strconv.uint64pow10"=some 3:=by kernel_rfl
 rw[y] at z;simp only[Option.bind_some] at z;cases hb:w.heap[3]? with
 | none=>rw[hb] at z;simp at z
 | some o=>exact(qdd.1 hb).1
theorem Jpy(p:Addr)(n gen:Nat)(w:World)(hn:1<=n/\n<=4096)(hg:1<=gen):
  Cs 222 #[.pointer (some p),(n:Int),.int .u64 (gen:Int)] w fun e w'=>e= .returned true/\w=w':=by
 have d1:decide ((0:Int)<(gen:Int))=true:=qan (by omega);have d1':decide (0<gen)=true:=qan (by omega);have d2:decide ((1:Int)<=(n:Int))=true:=qan (by omega);have d2':decide (1<=n)=true:=qan (by omega);have d3:decide ((n:Int)<=4096)=true:=qan (by omega);have d3':decide (n<=4096)=true:=qan (by omega);go_enter Tryz.func222,Tryz.ntmps222;go_wp2;go_ret;exact⟨rfl,rfl⟩
def Jr8 (w:World) (g:Nat) (d:Addr) (from_ n gen:Nat):Prop:=
 Bx w g 286 #[.pointer (some d),(from_:Int),(n:Int),.int .u64 (gen:Int),(0:Int),(0:Int),(0:Int)]
theorem J63(p:Addr)(from_ n gen:Nat)(w:World)(hn:1<=n/\n<=4096)(hg:1<=gen):
  Cs 249 #[.pointer (some p),(from_:Int),(n:Int),.int .u64 (gen:Int)] w fun e w'=>∃g,e= .returned (.tuple #[(g:Nat),(0:Int)])/\Jr8 w' g p from_ n gen/\w.heap.size<=g/\Below w.heap.size w w':=by
 have y:=zI (Jpy p n gen w hn hg);have z:=(qaa w.heap.size w).alloc (qab _) (.cells #[.pointer (some p),(from_:Int),(n:Int),.int .u64 (gen:Int),(0:Int),(0:Int),(0:Int)] 286);have x:=zI z;clear z hn hg;go_enter Tryz.func249,Tryz.ntmps249;go_wp2_with fail
 refine y.out.mono ?_;rintro e w1 ⟨rfl,v⟩;subst v;go_wp2_with fail
 go_ret2;exact⟨w.heap.size,rfl,Bx.new w _ _,qab _,x.out⟩
end Go.Proofs.YtglmhddbhhcjdaaGreatDoor
