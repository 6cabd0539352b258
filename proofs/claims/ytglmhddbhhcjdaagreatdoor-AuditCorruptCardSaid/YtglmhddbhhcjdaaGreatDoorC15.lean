/- Laws that the walk of the last text wants. -/
import Derived.Test.YtglmhddbhhcjdaaGreatDoorC14
set_option maxRecDepth 100000
set_option linter.unusedSimpArgs false
set_option maxHeartbeats 4000000
namespace Go.Proofs.YtglmhddbhhcjdaaGreatDoor.Led
open Go.RowKit Go.Maps Go.Sort Go.Shelf
theorem Jp3{xs:List Acc}{nm:List UInt8}{F G:Acc ->Acc}(h:∀a,(F a).name=a.name):setA (setA xs nm F) nm G=setA xs nm (fun a=>G (F a)):=by
 unfold setA;rw[qcl];apply qcv;intro a _;simp only[Function.comp];by_cases e:a.name=nm
 · rw[qa0 e,qa0 (by rw[h,e]),qa0 e]
 · rw[qay e,qay e,qay e]
theorem Jcm{xs:List Acc}{a:Acc}{F:Acc ->Acc}(ha:a∈xs):F a∈setA xs a.name F:=Je6.2 ⟨a,ha,by rw[qa0 rfl]⟩
theorem Ja6.setTo{n:Int}{us us':List Int}{xs:List Acc}(h:Ja6 n us xs)(hp:xs.Pairwise (fun x y=>x.name≠y.name))(hone:∀x∈xs,∀y∈xs,x.name=y.name ->x=y){a:Acc}(ha:a∈xs){F:Acc ->Acc}(hF:∀x,(F x).name=x.name)(h1:0<=(F a).left)(h2:sumL xs - a.left+(F a).left+us'.length<=n)(h3:∀z,z∈us'↔z∈(F a).held\/(z∈us/\z∉a.held))(h4:∀z∈(F a).held,z∈a.held\/z∉us):
  Ja6 n us' (setA xs a.name F):=by
 have key:∀y∈setA xs a.name F,(y=F a)\/(y∈xs/\y.name≠a.name):=by
  intro y s;obtain⟨x,w,rfl⟩:=Je6.1 s;by_cases e:x.name=a.name
  · rw[qa0 e,hone x w a ha e];exact .inl rfl
  · rw[qay e];exact .inr ⟨w,e⟩
 refine⟨fun y s=> ?_,fun y s=> ?_,?_,fun z=> ?_,fun y s y' hy' z v u=> ?_⟩
 · rcases key y s with rfl | ⟨w,_⟩
   · rw[hF];exact h.name a ha
   · exact h.name y w
 · rcases key y s with rfl | ⟨w,_⟩
   · exact h1
   · exact h.pos y w
 · rw[Jjt hp ha rfl];exact h2
 · rw [h3]
   constructor
   · rintro(v | ⟨v,l⟩)
     · exact⟨F a,Jcm ha,v⟩
     · obtain⟨x,w,q⟩:=(h.held z).1 v
       refine⟨x,Je6.2 ⟨x,w,?_⟩,q⟩;rw[qay (fun e=>l (by rw[<- hone x w a ha e];exact q))]
   · rintro⟨y,s,v⟩
     rcases key y s with rfl | ⟨w,t⟩
     · exact .inl v
     · exact .inr ⟨(h.held z).2 ⟨y,w,v⟩,fun r=>t (h.once y w a ha z v r)⟩
 · have cross:∀y,y∈xs ->y.name≠a.name ->∀z,z∈(F a).held ->z∈y.held ->False:=by
    intro y w t z v u;rcases h4 z v with r | m
    · exact t (h.once y w a ha z u r)
    · exact m ((h.held z).2 ⟨y,w,u⟩)
   rcases key y s with rfl | ⟨w,t⟩<;>rcases key y' hy' with rfl | ⟨p,o⟩
   · rfl
   · exact(cross y' p o z v u).elim
   · exact(cross y w t z u v).elim
   · exact h.once y w y' p z v u
def Je7 (s:List Int×List Int) (z:Int):List Int×List Int:=if z∈s.1 then (s.1.filter (fun x=>decide (x≠z)),s.2++[z]) else s
def outAll (hs zs:List Int):List Int×List Int:=zs.foldl Je7 (hs,[])
theorem Jk5(hs zs:List Int)(z:Int):outAll hs (zs++[z])=Je7 (outAll hs zs) z:=by simp[outAll,qb8]
structure J9p (hs zs:List Int) (O:List Int×List Int):Prop where
 nodup:O.2.Nodup
 sub:∀z∈O.2,z∈hs/\z∈zs
 left:O.1=hs.filter fun x=>decide (x∉O.2)
 len:O.2.length<=zs.length
 all:∀z∈zs,z∈hs ->z∈O.2
theorem Jp4(hs zs:List Int):J9p hs zs (outAll hs zs):=by
 obtain⟨ys,rfl⟩:∃ys:List Int,zs=ys.reverse:=⟨zs.reverse,by simp⟩
 induction ys with
 | nil=>exact⟨by simp[outAll],by simp[outAll],by simp[outAll];exact(qbx.2 (by simp)).symm,by simp[outAll],by simp⟩
 | cons y r ih=>
   rw[qby,Jk5];obtain⟨o,n,s,l,m⟩:=ih;generalize outAll hs r.reverse=O at*;have v:y∈O.1↔y∈hs/\y∉O.2:=by rw[s,qbf];simp
   by_cases t:y∈O.1
   · have e:Je7 O y=(O.1.filter (fun x=>decide (x≠y)),O.2++[y]):=qa0 t
     rw[e];obtain⟨q,p⟩:=v.1 t;refine⟨?_,fun z w=> ?_,?_,?_,fun z w hzh=> ?_⟩
     · rw[qdm]
       exact⟨o,by simp,fun a ha b hb e=>by simp at hb;rw[e,hb] at ha;exact p ha⟩
     · rcases qbe.1 w with w | w
       · have:=n z w;exact⟨this.1,by simp at this ⊢;exact .inl this.2⟩
       · simp at w;subst w;exact⟨q,by simp⟩
     · rw[s,List.filter_filter]
       apply qb9;intro x _;rw[qcg]
       simp;exact And.comm
     · simp only[qad,qa3,qbo] at*;omega
     · rcases qbe.1 w with w | w
       · exact qbe.2 (.inl (m z w hzh))
       · simp at w;subst w;simp
   · have e:Je7 O y=O:=qay t
     rw[e];refine⟨o,fun z w=> ?_,s,?_,fun z w hzh=> ?_⟩
     · have:=n z w;exact⟨this.1,by simp at this ⊢;exact .inl this.2⟩
     · simp only[qad,qa3,qbo] at*;omega
     · rcases qbe.1 w with w | w
       · exact m z w hzh
       · simp at w;subst w
         by_cases u:z∈O.2
         · exact u
         · exact absurd (v.2 ⟨hzh,u⟩) t
theorem Jsj(B:Nat)(a:Acc)(A:Option Addr)(k c:Nat)(zs:List Int)(w:World)(h:Jf0 w B a)(hz:Ints w .i64 A k zs)(hk:k<=1000000):
  Cs 344 #[a.ab,.slice A k c] w fun e w'=>∃v,e= .returned v/\w'.ownsRow w.heap.size 3 1 v (outAll a.held zs).2.length ((outAll a.held zs).2.map (Value.int .i64))/\Jbn w' a.hb (outAll a.held zs).1/\w.grownBy w' (some a.hb):=by
 have H:=zI hz.len;obtain⟨i0,F,S,R,P⟩:=qb2 Jgi;have Y:=qcb h.blk;have N:a.ab≠a.hb:=h.ne h;go_enter Tryz.func344,Tryz.ntmps344;go_wp2;go_loopw [5,14] (fun v i wr=>∃j:Nat,j<=k/\i= .int .i64 j/\wr.ownsRow w.heap.size 3 1 v (outAll a.held (zs.take j)).2.length ((outAll a.held (zs.take j)).2.map (Value.int .i64))/\Jbn wr a.hb (outAll a.held (zs.take j)).1/\w.grownBy wr (some a.hb)) (fun _ i _=>k - (intOf i).toNat)
 case atStart=>exact⟨0,qaq _,rfl,qaz _ _ _ _,h.set,qcc _ _⟩
 case round=>
  obtain⟨j,C,rfl,y,u,s⟩:=hrel;by_cases M:j<k
  · have K:j<zs.length:=by rw[H.out];exact M
    obtain⟨b,off,rfl,hb,hc⟩:=(Jfs hz s h.set.nocell).get K;have p:=hz.wf _ (qan K);have T:=zI (show outAll a.held (zs.take (j+1))=Je7 (outAll a.held (zs.take j)) zs[j] from by rw[qam K,Jk5]);have G:(outAll a.held (zs.take j)).2.length<=j:=by have:=(Jp4 a.held (zs.take j)).len;rw[qao] at this;omega
    have L:wr.cell? ⟨a.ab,1,none⟩=some (.map (some a.hb)):=(qbk (a:=⟨a.ab,1,none⟩) (s.block _ Y (fun e=>N (by injection e)))).trans h.cells.2.1;have E:w.heap.size<=wr.heap.size:=s.size;have J:a.ab<wr.heap.size:=(by omega);generalize outAll a.held (zs.take j)=O at*;generalize zs[j]'K=z at*;by_cases Z:z∈O.1
    · have W:=zI (show Je7 O z=(O.1.filter (fun x=>decide (x≠z)),O.2++[z]) from qa0 Z)
      have I:=zI (qaj Z);clear Z;have o:=y.alloc (.cells #[] 234);have n:=u.alloc (.cells #[] 234)
      go_wp2_with (first
       | (at_lookup;refine wpList_lookup_own_unit _ rfl _ _ 233 rfl 3 234 Jcu Tryz.underlying233 (Jkr _) a.hb _ (setD O.1) rfl u.own _ _ rfl (keyOf_int_mk Tryz.underlying3 p) ?_;rw[Jnn,I.out])
       | (at_delete;refine wpList_delete_own _ rfl _ _ 233 3 rfl 234 Jcu Tryz.underlying233 _ a.hb _ (setD O.1) rfl n.own _ _ rfl (keyOf_int_mk Tryz.underlying3 p) ?_;intro w3 r q
          have m:=q.grown;have l:=o.kept m (.inr (fun e=>by have:=(y.lt _ e).1;have:=h.set.lt;omega));have D:w.heap.size<=w3.heap.size:=by have:=m.size;simp at this;omega
          have g:=Jyx r u.rising;clear r)
       | (at_builtin;refine qdl _ rfl _ _ 24 rfl w.heap.size 3 i0 (0:Int) 1 8 Tryz.underlying24 F S R P rfl (by decide) _ _ _ rfl (l.alloc _) ⟨w3.heap.size,0,none⟩ 1 1 [(z:Int)] rfl rfl (cell_one_new _ _ _) (ints_oneCell _ [z]) ?_ ?_ ?_ ?_
          · unfold maxLen;omega
          · omega
          · simp;omega
          intro v' w4 f t _))
      have d:=(g.alloc (.cells #[(z:Int)] 3)).grown t (fun e=>by have:=(y.lt _ e.symm).1;have:=h.set.lt;omega);have V:=((s.andThen (qbl wr (.cells #[] 234) none) (fun _ e=>nomatch e)).andThen m (fun j e=> .inr (by cases e;rfl))).andThen (qbl w3 (.cells #[(z:Int)] 3) none) (fun _ e=>nomatch e);have U:=V.andThen t (fun j e=> .inl ((y.lt _ e).1));go_roundw
      case rel=>exact⟨j+1,by omega,by go_num,by rw[T.out,W.out];simpa using f,by rw[T.out,W.out];exact d,U⟩
      case measure=>simp[intOf];omega
    · have W:=zI (show Je7 O z=O from qay Z)
      have I:=zI (qae Z);clear Z
      go_wp2_with (first
       | (at_lookup;refine wpList_lookup_own_unit _ rfl _ _ 233 rfl 3 234 Jcu Tryz.underlying233 (Jkr _) a.hb _ (setD O.1) rfl u.own _ _ rfl (keyOf_int_mk Tryz.underlying3 p) ?_;rw[Jnn,I.out]))
      go_roundw
      case rel=>exact⟨j+1,by omega,by go_num,by rw[T.out,W.out];exact y.alloc _,by rw[T.out,W.out];exact u.alloc _,s.andThen (qbl wr (.cells #[] 234) none) (fun _ e=>nomatch e)⟩
      case measure=>simp[intOf];omega
  · have e1:=zI (show zs.take j=zs from qap (by rw[H.out];omega))
    go_wp2;go_ret;rw[e1.out] at y u;exact⟨_,rfl,y,u,s⟩
def Jf1 (o:Option Acc):List Int:=match o with | some a=>a.held | none=>[]
theorem Jad.held_few{w:World}{B g m mm:Nat}{f n:Int}{us:List Int}{xs:List Acc}(h:Jad w B g m mm f n us xs){a:Acc}(ha:a∈xs):(a.held.length:Int)<=n:=by
 have:=Jgh (h.acc a ha).set.rising (a:=f) (b:=f+n) (by have:=h.pool.rng;omega) (fun z hz=>h.pool.ins z (h.sub ha z hz));omega
theorem Jp5{B g m mm:Nat}{f n:Int}{us:List Int}{xs:List Acc}(s:ByteArray)(w:World)(h:Jad w B g m mm f n us xs)(hs:s.size<=maxLen):
  Cs 77 #[g,s] w fun e w'=>∃v,e= .returned v/\w'.ownsRow w.heap.size 3 1 v (Jf1 (Jba xs s.data.toList)).length ((Jf1 (Jba xs s.data.toList)).map (Value.int .i64))/\Below w.heap.size w w':=by
 cases hf:Jba xs s.data.toList with
 | none=>
   have c:=zI (show Jl1 (Jba xs s.data.toList)= .pointer none from by rw[hf];rfl);clear hf;go_enter Tryz.func77,Tryz.ntmps77;go_wp2_with (go_at_call 146;refine(Jcl s _ h hs).mono ?_;rw[c.out];rintro e w1 ⟨rfl,rfl⟩)
   go_ret;exact⟨_,rfl,qaz _ _ _ _,qaa _ _⟩
 | some a=>
   have j:=(Jbt hf).1;refine(callsIn_wide (n:=6)).1 ?_;have k:=h.acc a j;obtain⟨c0,c1,c2⟩:=k.cells;have r:=k.set.lt;have i:=h.held_few j;obtain⟨_,_,q,_⟩:=h.few;have y:Maps.size (setD (H:=Unit) a.held)<=maxLen:=by rw[Jhw];unfold maxLen;omega
   have z:Maps.size (setD (H:=Unit) a.held)*8<=140737488355328:=by rw[Jhw];omega
   have x:SeqGives Fence.wide 2 Tryz.prog 235 #[w.heap.size] encZ (fun ss=>ss.Perm (intKeys (setD (H:=Unit) a.held))) (Maps.size (setD (H:=Unit) a.held)) (w.alloc (.cells #[.map (some a.hb)] 233)):=
    AnyZI.keys_gives (ρ:=Tryz.keysA_ren) {Tryz.keysA with} Fence.wide _ trivial rfl (by omega) w.heap.size a.hb a.held.length (setD a.held) _ (by simp) (by simp) (by
     obtain⟨es,clock,p,Ft,hs,b⟩:=k.set.own;exact⟨es,clock,(Below.heap_alloc _ _ a.hb r).trans p,Ft,hs,b⟩)
   have cK:∀mb W,CallsIn Fence.wide 5 Tryz.prog 148 #[.map mb] W fun e w'=>e= .returned (.func (.func 235) #[] #[W.heap.size])/\w'=W.alloc (.cells #[.map mb] 233):=fun mb W=>AnyZI.keys_in Tryz.keysA Fence.wide 5 trivial rfl mb W;have cS:=AnyZI.sorted_in Tryz.sortedA Fence.wide 5 trivial trivial trivial trivial rfl (by omega) (J9i _) (enters_of Tryz.func234 (by kernel_rfl) rfl) 235 #[w.heap.size] trivial (enters_of Tryz.func235 (by kernel_rfl) rfl) _ _ y z _ x;change CallsIn _ _ Tryz.prog 147 _ _ _ at cS;have Z:Fence.wide.fn 148:=trivial;have Y:Fence.wide.fn 147:=trivial;have V:Fence.wide.fn 146:=trivial
   have cF:CallsIn Fence.wide 5 Tryz.prog 146 #[g,s] w fun e w'=>e= .returned a.ab/\w=w':=
    callsIn_wide.2 ((Jcl s w h hs).mono fun e w' ⟨h1,h2⟩=>⟨by rw[h1,hf];rfl,h2⟩)
   clear x y z hf;refine callsIn_of_wp Tryz.func77 rfl trivial ?_ rfl;simp only[Tryz.ntmps77,List.size_toArray,qa3,qbo,Nat.reduceAdd,Nat.reduceSub,Array.replicate_succ,Array.replicate_zero,List.push_toArray,List.append_toArray,qck,qdq]
   gi_wp2_with (first
    | (gi_at_call 146;refine cF.mono ?_;rintro e w1 ⟨rfl,rfl⟩)
    | (gi_at_call 148;refine(cK _ _).mono ?_;rintro e w' ⟨rfl,rfl⟩)
    | (gi_at_call 147;refine cS.mono ?_;rintro e w' ⟨v,ss,rfl,o,u,d,p⟩))
   go_ret;rw[Jpj] at o;have t:ss.length=a.held.length:=o.length_eq;have l:=sorted_perm k.set.rising o;rw[l,t] at u;exact⟨v,rfl,ownsRow_base_a u (by simp),((qaa _ w).alloc (qab _) _).trans (p.mono (by simp))⟩
end Go.Proofs.YtglmhddbhhcjdaaGreatDoor.Led
namespace Go.Proofs.YtglmhddbhhcjdaaGreatDoor.Led
open Go.RowKit Go.Maps
def Jdd (xs:List Acc) (nm:List UInt8) (k:Int):Int:=if k<0 then 1 else match Jba xs nm with | none=>8 | some a=>if a.left<k then 20 else 0
def Je8 (f n:Int) (us:List Int) (xs:List Acc) (nm:List UInt8) (k:Int):List Int:=if Jdd xs nm k=0 then (freeIn f us n.toNat).take k.toNat else []
def J4a (k:Int) (out:List Int) (v:AV):AV:=(v.1,v.2.1 - k,insAll v.2.2 out)
def Jgm (B g m mm:Nat) (f n:Int) (us:List Int) (xs:List Acc) (s:ByteArray) (k:Int) (w:World) (e:Ending) (w':World):Prop:=
 ∃v ys,e= .returned (.tuple #[v,(Jdd xs s.data.toList k:Int)])/\w'.ownsRow w.heap.size 3 1 v (Je8 f n us xs s.data.toList k).length ((Je8 f n us xs s.data.toList k).map (Value.int .i64))/\
  Jad w' B g m mm f n (insAll us (Je8 f n us xs s.data.toList k)) ys/\view ys=(if Jdd xs s.data.toList k=0 then setV (view xs) s.data.toList (J4a k (Je8 f n us xs s.data.toList k)) else view xs)/\ys.length=xs.length/\Below B w w'/\∀N,Ja0 N xs ys
def Kept (w w':World) (m:Nat) (xs:List Acc):Prop:=∀i,i<w.heap.size ->i≠m ->(∀a∈xs,i≠a.ab/\i≠a.hb) ->w'.heap[i]? =w.heap[i]?
theorem Kept.refl(w:World)(m:Nat)(xs:List Acc):Kept w w m xs:=fun _ _ _ _=>rfl
structure DrawLaw (f n:Int) (us:List Int) (k:Int) (O:List Int):Prop where
 nodup:O.Nodup
 fresh:∀z∈O,f<=z/\z<f+n/\z∉us
 len:(O.length:Int)=k
theorem Jy1{f n:Int}{us:List Int}{k:Int}(hn:0<=n)(hr:Rising us)(hi:∀z∈us,f<=z/\z<f+n)(hk:0<=k)(hk2:k<=n - us.length):DrawLaw f n us k ((freeIn f us n.toNat).take k.toNat):=by
 have x:=freeIn_len (f:=f) (us:=us) (n:=n.toNat) hr (fun z hz=>by have:=hi z hz;omega);refine⟨(List.take_sublist _ _).nodup (rising_freeIn f us _).nodup,fun z hz=> ?_,?_⟩
 · have y:=mem_freeIn.1 (qbi hz)
   exact⟨y.1,by have:=y.2.1;omega,y.2.2⟩
 · rw[qao];omega
theorem Jmk(z:Int):∀l:List Int,(ins z l).length<=l.length+1
 | []=>by simp[ins]
 | y::r=>by
   have:=Jmk z r;unfold ins;split
   · simp
   · split<;>(simp only[qa3];omega)
theorem len_insAll_le:∀ (zs us:List Int),(insAll us zs).length<=us.length+zs.length
 | [],us=>by simp[insAll]
 | z::r,us=>by
   have y:=len_insAll_le r (ins z us);have x:=Jmk z us;show(insAll (ins z us) r).length<=_;simp only[qa3];omega
theorem Jy2{B g m mm:Nat}{f n:Int}{us:List Int}{xs:List Acc}(s:ByteArray)(k:Int)(w:World)(h:Jad w B g m mm f n us xs)(hs:s.size<=maxLen)(hk: -9223372036854775808<=k/\k<=9223372036854775807)(hB:B<=w.heap.size):
  Cs 292 #[g,s,(k:Int)] w fun e w'=>Jgm B g m mm f n us xs s k w e w'/\Kept w w' m xs:=by
 obtain⟨Hc,Hd⟩:=hk;obtain⟨nm,D⟩:=exE s.data.toList;have Hm:=zI D;clear D;by_cases N:k<0
 · have W:=zI (show Jdd xs s.data.toList k=1 from qa0 N)
   have M:=zI (show Je8 f n us xs s.data.toList k=[] from qay (by rw[W.out];omega));go_enter Tryz.func292,Tryz.ntmps292;go_wp2_with fail
   go_ret2;unfold Jgm;rw[W.out,M.out];exact⟨⟨_,xs,rfl,qaz _ _ _ _,h,rfl,rfl,qaa _ _,fun _=>Ja0.refl _ _⟩,Kept.refl _ _ _⟩
 cases hf:Jba xs s.data.toList with
 | none=>
   have W:=zI (show Jdd xs s.data.toList k=8 from by unfold Jdd;rw[qay N,hf]);have M:=zI (show Je8 f n us xs s.data.toList k=[] from qay (by rw[W.out];omega));have HF:=zI (show Jl1 (Jba xs s.data.toList)= .pointer none from by rw[hf];rfl);clear hf;go_enter Tryz.func292,Tryz.ntmps292;go_wp2_with (go_at_call 146;refine(Jcl s _ h hs).mono ?_;rw[HF.out];rintro e w1 ⟨rfl,rfl⟩)
   go_ret2;unfold Jgm;rw[W.out,M.out];exact⟨⟨_,xs,rfl,qaz _ _ _ _,h,rfl,rfl,qaa _ _,fun _=>Ja0.refl _ _⟩,Kept.refl _ _ _⟩
 | some a =>
   obtain⟨r,hn⟩:=Jbt hf;have HF:=zI (show Jl1 (Jba xs s.data.toList)= .pointer (some ⟨a.ab,0,none⟩) from by rw[hf];rfl);obtain⟨c0,c1,c2⟩:=(h.acc a r).cells;obtain⟨l1,l2⟩:=h.left_bd r;by_cases h2:a.left<k
   · have W:=zI (show Jdd xs s.data.toList k=20 from by unfold Jdd;rw[qay N,hf];exact qa0 h2)
     have M:=zI (show Je8 f n us xs s.data.toList k=[] from qay (by rw[W.out];omega));clear hf hn;go_enter Tryz.func292,Tryz.ntmps292;go_wp2_with (go_at_call 146;refine(Jcl s _ h hs).mono ?_;rw[HF.out];rintro e w1 ⟨rfl,rfl⟩)
     go_ret2;unfold Jgm;rw[W.out,M.out];exact⟨⟨_,xs,rfl,qaz _ _ _ _,h,rfl,rfl,qaa _ _,fun _=>Ja0.refl _ _⟩,Kept.refl _ _ _⟩
   · have W :=zI (show Jdd xs s.data.toList k=0 from by unfold Jdd;rw[qay N,hf];exact qay h2)
     have L:k<=n - us.length:=by have:=h.few;have:=Jhe h.pos r;omega
     have C:=h.pool.rng;have HD:=Jy1 (f:=f) (n:=n) (us:=us) (k:=k) (by omega) h.pool.set.rising h.pool.ins (by omega) L;obtain⟨O,hO⟩:=exE ((freeIn f us n.toNat).take k.toNat);rw[<- hO] at HD;have M:=zI (show Je8 f n us xs s.data.toList k=O from by rw[hO];exact qa0 W.out);have HT:=zI (show Jdc f n us k=(O,0) from by unfold Jdc;rw[qay N,qay (by omega),hO]);have HN:=zI hn;have Z:=zI HD;have V:(O.length:Int)=k:=HD.len;have Hn:O.length<=4096:=(by omega);have Ho:=zI V;clear hf hn hO C V HD;go_enter Tryz.func292,Tryz.ntmps292
     go_wp2_with (first
      | (go_at_call 146;refine(Jcl s _ h hs).mono ?_;rw[HF.out];rintro e w1 ⟨rfl,rfl⟩)
      | (go_at_call 343;refine(J3x g m f n us k w h.pool ⟨Hc,Hd⟩).mono ?_;rintro e w1 ⟨v,rfl,t,hp,K⟩
         rw[HT.out] at t hp;rw[HT.out];simp only at t hp;obtain⟨A,c,rfl,u⟩:=own_ints t (fun z p=>by have:=Z.out.fresh z p;have:=h.pool.rng;exact wf_i64 (by omega)) (by unfold maxLen;omega);have hJ:=h.mem.pooled hp K;obtain⟨d0,d1,d2⟩:=(hJ.acc a r).cells))
     have Hp:a.hb<w.heap.size:=(h.acc a r).set.lt;have Hq:a.ab<w.heap.size:=qcb (h.acc a r).blk;have J:a.ab≠a.hb:=(h.acc a r).ne (h.acc a r);have Ha:=hJ.left r (a.left - k);have Hb:w1.grownBy (w1.setCell ⟨a.ab,0,none⟩ (a.left - k:Int)) (some a.ab):=⟨rfl,rfl,rfl,by simp,fun i _ J=>heap_setCell_other w1 ⟨a.ab,0,none⟩ i _ (fun e=>J (by rw[e]))⟩;have U:=t.kept Hb (.inr (fun e=>by have:=(t.lt _ e).1;omega))
     have S:Kept w (w1.setCell ⟨a.ab,0,none⟩ (a.left - k:Int)) m xs:=fun i hi hm hx=>
      (heap_setCell_other w1 ⟨a.ab,0,none⟩ i _ (hx a r).1).trans (K.block i hi (fun e=>hm (by injection e)))
     have T:Below B w (w1.setCell ⟨a.ab,0,none⟩ (a.left - k:Int)):=((qaa B w).grown K hB (fun j hj=>by cases hj;exact h.mem.low.2.1)).setCell (h.acc a r).low.1 _;have P:w.heap.size<=(w1.setCell ⟨a.ab,0,none⟩ (a.left - k:Int)).heap.size:=T.size;have He:=zI (h.held_few r);have Hr:=h.few.2.2.1;clear Hb t hp u d0 d1 d2 c0 c1 c2;generalize w1.setCell ⟨a.ab,0,none⟩ (a.left - k:Int)=w2 at*;have o:=Ha.acc _ (Jcm r);have I:Jbn w2 a.hb a.held:=o.set;obtain⟨d0,d1,d2⟩:=o.cells;have d1':w2.cell? ⟨a.ab,1,none⟩=some (.map (some a.hb)):=d1;clear d0 d1 d2 o;go_loopw [49] (fun i wr=>∃j:Nat,j<=O.length/\i= .int .i64 j/\Jbn wr a.hb (insAll a.held (O.take j))/\w2.grownBy wr (some a.hb)) (fun i _=>O.length - (intOf i).toNat)
     case atStart=>exact⟨0,qaq _,rfl,I,qcc _ _⟩
     case round=>
      obtain⟨j,hj,rfl,q,Y⟩:=hrel;have l:=U.kept Y (.inr (fun e=>by have:=(U.lt _ e).1;omega));obtain⟨A',c',hA,u⟩:=own_ints l (fun z p=>by have:=Z.out.fresh z p;have:=h.pool.rng;exact wf_i64 (by omega)) (by unfold maxLen;omega);obtain⟨rfl,_,rfl⟩:=Value.slice.inj hA;by_cases H:j<O.length
      · obtain⟨b,off,rfl,hb,hc⟩:=u.get H
        have Hf:=u.wf _ (qan H);have Hg:wr.cell? ⟨a.ab,1,none⟩=some (.map (some a.hb)):=(qbk (a:=⟨a.ab,1,none⟩) (Y.block _ (by show a.ab<_;omega) (fun e=>J (by injection e)))).trans d1'
        have Hl:(insAll a.held (O.take j)).length<=8192:=by
         have N:=len_insAll_le (O.take j) a.held;have h2:=He.out;rw[qao] at N;omega
        have Hh:=zI (show insAll a.held (O.take (j+1))=ins O[j] (insAll a.held (O.take j)) from by rw[qam H,Jg9]);clear u l hA;go_wp2_with (at_mapUpdate;refine wpList_mapUpdate_own _ rfl _ _ _ 233 rfl 3 234 Jcu Tryz.underlying233 _ a.hb _ (setD (insAll a.held (O.take j))) rfl q.own (by unfold maxLen;omega) _ _ _ rfl rfl (keyOf_int_mk Tryz.underlying3 Hf) _ [] unitElem_mk ?_;intro w3 d R)
        rw[Jno _ _ q.rising] at d;have E:Jbn w3 a.hb (insAll a.held (O.take (j+1))):=by rw[Hh.out];exact Jbn.of_own d (Jct q.rising)
        clear d;go_wp2;go_roundw
        case rel=>exact⟨j+1,by omega,by go_num,E,Jas Y R⟩
        case measure=>simp[intOf];omega
      · have Hi:j=O.length:=by omega
        have Hj:=zI (show O.take j=O from qap (by omega));rw[Hj.out] at q;have Hk:=Ha.heldTo (Jcm r) q Y;have hd:decide ((j:Int)<(O.length:Int))=false:=qae (by omega);clear Hi u hA;go_wp2_with fail
        go_ret2;unfold Jgm;rw[W.out,M.out];have hS:=Jp3 (xs:=xs) (nm:=a.name) (F:=Jes (a.left - k)) (G:=Jet (insAll a.held O)) (fun _=>rfl);refine⟨⟨_,_,rfl,l,⟨Hk,?_⟩,?_,by rw[Jdl,Jdl],T.grown Y (qax hB P) (fun j hj=>by cases hj;exact(h.acc a r).low.2),fun _=>((Ja0.refl _ _).toL _ _).toH _ _⟩,fun i hi hm hx=>(Y.block i (qar hi P) (fun e=>(hx a r).2 (by injection e))).trans (S i hi hm hx)⟩
        · show Ja6 n _ (setA (setA xs a.name (Jes (a.left - k))) a.name (Jet (insAll a.held O)))
          rw[hS];refine h.law.setTo h.apart (fun x hx y hy=>h.mem.one hx hy) r (fun _=>rfl) (by show 0<=a.left - k;omega) ?_ (fun z=> ?_) (fun z p=> ?_)
          · rw[length_insAll Z.out.nodup (fun z p=>(Z.out.fresh z p).2.2)]
            show sumL xs - a.left+(a.left - k)+_<=n;have:=h.law.room;have:=Z.out.len;omega
          · show _↔z∈insAll a.held O\/_
            rw[mem_insAll,mem_insAll];have:=h.sub r z;by_cases p:z∈a.held
            · simp[p,this p]
            · simp[p];exact Or.comm
          · rcases mem_insAll.1 (show z∈insAll a.held O from p) with p | p
            · exact .inl p
            · exact .inr (Z.out.fresh z p).2.2
        · show view (setA (setA xs a.name (Jes (a.left - k))) a.name (Jet (insAll a.held O)))=_
          rw[hS,qa0 rfl,<- HN.out];exact Jgk (fun x hx e=>by rw[h.mem.one hx r e];rfl)
theorem J4b{B g m mm:Nat}{f n:Int}{us:List Int}{xs:List Acc}(s:ByteArray)(k:Int)(w:World)(h:Jad w B g m mm f n us xs)(hs:s.size<=maxLen)(hk: -9223372036854775808<=k/\k<=9223372036854775807)(hB:B<=w.heap.size):
  Cs 292 #[g,s,(k:Int)] w fun e w'=>Jgm B g m mm f n us xs s k w e w'/\Chg (LedF m mm xs) w w':=
 (Jy2 s k w h hs hk hB).mono fun e w' ⟨h,hk⟩=>by
   refine⟨h,?_⟩;obtain⟨_,_,_,_,_,_,_,z,_⟩:=h;exact⟨z.os,z.tape,z.output,z.size,fun b hlt hn=>hk b hlt (fun e=>hn (.inl e)) (fun a ha=>⟨fun e=>hn (.inr (.inr ⟨a,ha,.inl e⟩)),fun e=>hn (.inr (.inr ⟨a,ha,.inr e⟩))⟩)⟩
def Jh6 (xs:List Acc) (nm:List UInt8) (zs:List Int):List Int:=match Jba xs nm with | none=>[] | some a=>(outAll a.held zs).2
def retV (O:List Int) (v:AV):AV:=(v.1,v.2.1+O.length,v.2.2.filter fun x=>decide (x∉O))
def lessU (us O:List Int):List Int:=us.filter fun x=>decide (x∉O)
def Ji0 (B g m mm:Nat) (f n:Int) (us:List Int) (xs:List Acc) (s:ByteArray) (zs:List Int) (w:World) (e:Ending) (w':World):Prop:=
 ∃ys,e= .returned ((Jh6 xs s.data.toList zs).length:Int)/\Jad w' B g m mm f n (lessU us (Jh6 xs s.data.toList zs)) ys/\view ys=setV (view xs) s.data.toList (retV (Jh6 xs s.data.toList zs))/\ys.length=xs.length/\Chg (LedF m mm xs) w w'/\∀N,Ja0 N xs ys
theorem Jui{us O:List Int}(hn:O.Nodup)(hs:∀z∈O,z∈us):(Jbw us O).1=lessU us O/\(Jbw us O).2=(O.length:Int):=by
 have:=Jk4 (c:=0) hn hs;unfold Jbw;rw[this];exact⟨rfl,by simp⟩
theorem Jk6{us O:List Int}(hr:us.Nodup)(hn:O.Nodup)(hs:∀z∈O,z∈us):(lessU us O).length+O.length=us.length:=by
 have s:=Jfz (fun x=>decide (x∉O)) us
 have v:(us.filter fun x=> !decide (x∉O)).Perm O:=by
  rw[List.perm_iff_count];intro z;have u:=List.nodup_iff_count.1 (show(us.filter fun x=> !decide (x∉O)).Nodup from List.Pairwise.filter _ hr) z;have t:=List.nodup_iff_count.1 hn z
  have w:z∈(us.filter fun x=> !decide (x∉O))↔z∈O:=by
   rw[qbf];simp;exact fun h=>hs z h
  by_cases y:z∈O
  · have a1:=List.count_pos_iff.2 (w.2 y)
    have a2:=List.count_pos_iff.2 y;omega
  · rw[List.count_eq_zero.2 y,List.count_eq_zero.2 (fun h=>y (w.1 h))]
 have r:=v.length_eq;unfold lessU;omega
theorem Jwd{B g m mm:Nat}{f n:Int}{us:List Int}{xs:List Acc}(s:ByteArray)(A:Option Addr)(k c:Nat)(zs:List Int)(w:World)(h:Jad w B g m mm f n us xs)(hs:s.size<=maxLen)(hz:Ints w .i64 A k zs)(hk:k<=1000000)(_hB:B<=w.heap.size):
  Cs 294 #[g,s,.slice A k c] w (Ji0 B g m mm f n us xs s zs w):=by
 obtain⟨nm,Z⟩:=exE s.data.toList;have hJ:=zI Z;clear Z;cases hf:Jba xs s.data.toList with
 | none=>
   have N:=zI (show Jh6 xs s.data.toList zs=[] from by unfold Jh6;rw[hf]);have M:=zI (show Jl1 (Jba xs s.data.toList)= .pointer none from by rw[hf];rfl)
   have HV:=zI (show setV (view xs) s.data.toList (retV [])=view xs from by
    have:=Jiy hf;rw[<- Jgk (xs:=xs) (nm:=s.data.toList) (f:=id) (F:=retV []) (fun a u e=>absurd e (this a u)),Jpy this])
   have HU:=zI (show lessU us []=us from qbx.2 (by simp));clear hf;go_enter Tryz.func294,Tryz.ntmps294;go_wp2_with (go_at_call 146;refine(Jcl s _ h hs).mono ?_;rw[M.out];rintro e w1 ⟨rfl,rfl⟩)
   go_ret;unfold Ji0;rw[N.out,HV.out,HU.out];exact⟨xs,rfl,h,rfl,rfl,Chg.refl _ _,fun _=>Ja0.refl _ _⟩
 | some a=>
   obtain⟨u,E⟩:=Jbt hf;have M:=zI (show Jl1 (Jba xs s.data.toList)= .pointer (some ⟨a.ab,0,none⟩) from by rw[hf];rfl);obtain⟨l1,l2⟩:=h.left_bd u;have OL:=Jp4 a.held zs;obtain⟨O,l⟩:=exE ((outAll a.held zs).2);have N:=zI (show Jh6 xs s.data.toList zs=O from by unfold Jh6;rw[hf,l]);have L:=zI (show(outAll a.held zs).2=O from l.symm);have K:=zI (show(outAll a.held zs).1=lessU a.held O from by rw[l];exact OL.left);have i:O.Nodup:=by rw[l];exact OL.nodup
   have t:∀z∈O,z∈us:=fun z hz=>h.sub u z (OL.sub z (by rw[<- l];exact hz)).1;have r:∀z∈O,z∈a.held:=fun z hz=>(OL.sub z (by rw[<- l];exact hz)).1;have J:=Jui i t;have I:=zI J.1;have H:=zI J.2;have Y:=zI (Jk6 h.pool.set.rising.nodup i t);have Ha:O.length<=4096:=by have:=Y.out;have:=h.few;omega
   have HN:=zI E;have W:=zI t;have d:=zI r;have Hb:a.hb<w.heap.size:=(h.acc a u).set.lt;have Hc:a.ab<w.heap.size:=qcb (h.acc a u).blk;have Hd:a.ab≠a.hb:=(h.acc a u).ne (h.acc a u);have D:=h.pool.lt;clear hf E J t r OL l i;go_enter Tryz.func294,Tryz.ntmps294;go_wp2_with (go_at_call 146;refine(Jcl s _ h hs).mono ?_;rw[M.out];rintro e w1 ⟨rfl,rfl⟩)
   have C:=h.bel ((qaa w.heap.size w).drew);have V:=hz.below ((qaa w.heap.size w).drew)
   go_region_with (first
    | (go_at_call 344;refine(Jsj B a A k c zs _ (C.acc a u) V hk).mono ?_;rintro e w2 ⟨v,rfl,q,p,U⟩
       rw[L.out] at q;rw[K.out] at p;obtain⟨A2,c2,rfl,o⟩:=own_ints q (fun z hz=>by have:=h.pool.ins z (W.out z hz);have:=h.pool.rng;exact wf_i64 (by omega)) (by unfold maxLen;omega);have T:=C.mem.heldTo u p U)
    | (go_at_call 345;refine(Jua g m f n us A2 _ c2 O _ T.pool o).mono ?_;rintro e w3 ⟨rfl,S,R⟩
       rw[H.out];rw[I.out] at S;have P:=T.pooled S R))
   obtain⟨d0,d1,d2⟩:=(P.acc _ (Jcm u)).cells;have e0:w3.cell? ⟨a.ab,0,none⟩=some (.int .i64 a.left):=d0;have e2:w3.frozen? ⟨a.ab,0,none⟩=false:=d2;have b:Chg (LedF m mm xs) w w3:=Jdk (Jdk (Chg.of_below (qaa w.heap.size w).drew) U (fun j hj=>by cases hj;exact .inl (LedF.held u))) R (fun j hj=>by cases hj;exact .inl (LedF.pool _ _ _));clear d0 d1 d2 q p o V;go_wp2_with fail
   go_ret;unfold Ji0;rw[N.out];have hS:=Jp3 (xs:=xs) (nm:=a.name) (F:=Jet (lessU a.held O)) (G:=Jes (a.left+O.length)) (fun _=>rfl);refine⟨setA (setA xs a.name (Jet (lessU a.held O))) a.name (Jes (a.left+O.length)),rfl,⟨P.left (Jcm u) _,?_⟩,?_,by rw[Jdl,Jdl],Jy0 b _ (.inl (LedF.acc u)),fun _=>((Ja0.refl _ _).toH _ _).toL _ _⟩
   · rw[hS]
     refine h.law.setTo h.apart (fun x hx y hy=>h.mem.one hx hy) u (fun _=>rfl) (by show 0<=a.left+(O.length:Int);omega) ?_ (fun z=> ?_) (fun z hz=> ?_)
     · show sumL xs - a.left+(a.left+(O.length:Int))+_<=n
       have:=h.law.room;have:=Y.out;omega
     · show z∈lessU us O↔z∈lessU a.held O\/(z∈us/\z∉a.held)
       unfold lessU;rw[qbf,qbf];have h1:=h.sub u z;have h2:=d.out z;simp only[qbc];by_cases hz:z∈a.held
       · simp[hz,h1 hz]
       · simp[hz];exact fun _ ho=>hz (h2 ho)
     · exact .inl (qbf.1 (show z∈lessU a.held O from hz)).1
   · rw[hS,<- HN.out]
     exact Jgk (fun x hx e=>by rw[h.mem.one hx u e];rfl)
def Jml (vs:List AV) (nm:List UInt8):List AV:=vs.filter fun v=>decide (v.1≠nm)
def Jp6 (B g m mm:Nat) (f n:Int) (us:List Int) (xs:List Acc) (s:ByteArray) (w:World) (e:Ending) (w':World):Prop:=
 ∃ys,e= .returned ((Jf1 (Jba xs s.data.toList)).length:Int)/\Jad w' B g m mm f n (lessU us (Jf1 (Jba xs s.data.toList))) ys/\view ys=Jml (view xs) s.data.toList/\ys.length<=xs.length/\Chg (LedF m mm xs) w w'/\∀N,Ja0 N xs ys
theorem Jwe(xs:List Acc)(nm:List UInt8):view (xs.filter fun a=>decide (a.name≠nm))=Jml (view xs) nm:=by
 unfold view Jml;rw[List.filter_map];rfl
theorem Jjn{xs:List Acc}(h:∀a∈xs,0<=a.left)(nm:List UInt8):0<=sumL (xs.filter fun a=>decide (a.name≠nm))/\sumL (xs.filter fun a=>decide (a.name≠nm))<=sumL xs:=Jg3 h _
theorem Jad.closed{w:World}{B g m mm:Nat}{f n:Int}{us:List Int}{xs:List Acc}(h:Jad w B g m mm f n us xs)(nm:List UInt8):Ja6 n (lessU us (Jf1 (Jba xs nm))) (xs.filter fun a=>decide (a.name≠nm)):=by
 have sub:∀ {a},a∈(xs.filter fun a=>decide (a.name≠nm)) ->a∈xs/\a.name≠nm:=fun h=>by
  have:=qbf.1 h;exact⟨this.1,qb7 this.2⟩
 have r:(lessU us (Jf1 (Jba xs nm))).length<=us.length:=qdh _ _;have q:=Jjn h.pos nm;refine⟨fun a y=>h.law.name a (sub y).1,fun a y=>h.law.pos a (sub y).1,by have:=h.law.room;omega,fun z=> ?_,fun a y b u=>h.law.once a (sub y).1 b (sub u).1⟩;unfold lessU;rw[qbf,h.law.held z];simp only[qbc];constructor
 · rintro⟨⟨a,y,v⟩,x⟩
   refine⟨a,qbf.2 ⟨y,qaj (fun e=>x ?_)⟩,v⟩;rw[<- e,h.mem.find y];exact v
 · rintro⟨a,y,v⟩
   obtain⟨t,s⟩:=sub y;refine⟨⟨a,t,v⟩,fun x=> ?_⟩;cases hf:Jba xs nm with
   | none=>rw[hf] at x;simp[Jf1] at x
   | some b=>
     rw[hf] at x;obtain⟨u,e⟩:=Jbt hf;exact s (by rw[<- e];exact h.law.once a t b u z v x)
theorem Jy3{B g m mm:Nat}{f n:Int}{us:List Int}{xs:List Acc}(s:ByteArray)(w:World)(h:Jad w B g m mm f n us xs)(hs:s.size<=maxLen)(_hB:B<=w.heap.size):
  Cs 295 #[g,s] w (Jp6 B g m mm f n us xs s w):=by
 obtain⟨O,Z⟩:=exE (Jf1 (Jba xs s.data.toList));have R:=zI (show Jf1 (Jba xs s.data.toList)=O from Z.symm)
 have u:O.Nodup/\∀z∈O,z∈us:=by
  rw[Z];cases hf:Jba xs s.data.toList with
  | none=>simp[Jf1]
  | some a=>
    obtain⟨N,_⟩:=Jbt hf;exact⟨(h.acc a N).set.rising.nodup,h.sub N⟩
 have Y:=Jui u.1 u.2;have W:=zI Y.1;have V:=zI Y.2;have U:=zI (Jk6 h.pool.set.rising.nodup u.1 u.2);have K:O.length<=4096:=by have:=U.out;have:=h.few;omega
 have l:=zI u.2;have M:=h.pool.lt;have k:=WideMaps.keyOf_string_mk (P:=Tryz.prog) Tryz.underlying9 hs;clear Y u Z;go_enter Tryz.func295,Tryz.ntmps295;go_wp2_with (go_at_call 232;refine(Jh4 _ h).mono ?_;rintro e w1 ⟨rfl,rfl⟩)
 have L:=h.bel ((qaa w.heap.size w).drew)
 go_region_with (first
  | (go_at_call 77;refine(Jp5 s _ L hs).mono ?_;rintro e w2 ⟨v,rfl,t,i⟩
     rw[R.out] at t;obtain⟨A2,c2,rfl,r⟩:=own_ints t (fun z hz=>by have:=h.pool.ins z (l.out z hz);have:=h.pool.rng;exact wf_i64 (by omega)) (by unfold maxLen;omega);have d:=(L.bel i).mem)
  | (go_at_call 345;refine(Jua g m f n us A2 _ c2 O _ d.pool r).mono ?_;rintro e w3 ⟨rfl,c,b⟩
     rw[V.out];rw[W.out] at c;have p:=d.pooled c b))
 have c3:=p.c3;have o:Chg (LedF m mm xs) w w3:=Jdk ((Chg.of_below (qaa w.heap.size w).drew).then_below i) b (fun j hj=>by cases hj;exact .inl (LedF.pool _ _ _));clear t r;go_wp2_with (at_delete;refine wpList_delete_own _ rfl _ _ 337 9 rfl 227 Jiz Tryz.underlying337 _ mm _ (accD xs) rfl p.own _ _ rfl k ?_;intro w4 x y)
 rw[J3z] at x;have T:=p.deleted s.data.toList x y.grown;have S:=y.grown;clear x y;go_wp2_with fail
 go_ret;unfold Jp6;have q:=h.closed s.data.toList;rw[R.out] at q ⊢;exact⟨_,rfl,⟨T,q⟩,Jwe _ _,qdh _ _,Jdk o S (fun j hj=>by cases hj;exact .inl (LedF.map _ _ _)),fun _=>(Ja0.refl _ _).sub (fun z hz=>(qbf.1 hz).1)⟩
def Jeh (xs:List Acc) (nm:List UInt8) (t:ByteArray) (zs:List Int):List Int:=match Jba xs nm with | none=>[] | some a=>if 1<=t.size/\t.size<=15 then (outAll a.held zs).2 else []
def J4c (O:List Int) (v:AV):AV:=(v.1,v.2.1,lessU v.2.2 O)
def J9q (O:List Int) (v:AV):AV:=(v.1,v.2.1,insAll v.2.2 O)
def Jy4 (vs:List AV) (nm t:List UInt8) (O:List Int):List AV:=if O=[] then vs else setV (Jn9 (setV vs nm (J4c O)) t) t (J9q O)
def Jh7 (B g m mm:Nat) (f n:Int) (us:List Int) (xs:List Acc) (s t:ByteArray) (zs:List Int) (w:World) (e:Ending) (w':World):Prop:=
 ∃ys,e= .returned ((Jeh xs s.data.toList t zs).length:Int)/\Jad w' B g m mm f n us ys/\view ys=Jy4 (view xs) s.data.toList t.data.toList (Jeh xs s.data.toList t zs)/\ys.length<=xs.length+1/\Chg (LedF m mm xs) w w'/\Ja0 w.heap.size xs ys
theorem Jmm{w:World}{P:Program}{k:TypeId}{R:Value ->Option (DataW Unit×List MemPlace)}{b n:Nat}{D:DataW Unit}(h:w.ownsMap P k R b n D)(o:Nat):w.cell? ⟨b,o,none⟩=none:=by
 obtain⟨es,c,z,_⟩:=h;simp[World.cell?,z]
theorem J4d{B g m mm:Nat}{f n:Int}{us:List Int}{xs:List Acc}(s t:ByteArray)(A:Option Addr)(k c:Nat)(zs:List Int)(w:World)(h:Jad w B g m mm f n us xs)(hs:s.size<=maxLen)(ht:t.size<=maxLen)(hz:Ints w .i64 A k zs)(hk:k<=1000000)(hB:B<=w.heap.size)(hfew:xs.length<1000000):
  Cs 293 #[g,s,t,.slice A k c] w (Jh7 B g m mm f n us xs s t zs w):=by
 cases hf:Jba xs s.data.toList with
 | none=>
   have HO:=zI (show Jeh xs s.data.toList t zs=[] from by unfold Jeh;rw[hf]);have HF:=zI (show Jl1 (Jba xs s.data.toList)= .pointer none from by rw[hf];rfl);clear hf;go_enter Tryz.func293,Tryz.ntmps293;go_wp2_with (go_at_call 146;refine(Jcl s _ h hs).mono ?_;rw[HF.out];rintro e w1 ⟨rfl,rfl⟩)
   go_ret;unfold Jh7;rw[HO.out];exact⟨xs,rfl,h,(qa0 rfl).symm,by omega,Chg.refl _ _,Ja0.refl _ _⟩
 | some a =>
   have HF:=zI (show Jl1 (Jba xs s.data.toList)= .pointer (some ⟨a.ab,0,none⟩) from by rw[hf];rfl);by_cases U:1<=t.size/\t.size<=15
   rotate_left
   · have HO:=zI (show Jeh xs s.data.toList t zs=[] from by unfold Jeh;rw[hf];exact qay U)
     have HD:=zI (qae U);clear U hf;go_enter Tryz.func293,Tryz.ntmps293
     go_wp2_with (first
      | (go_at_call 146;refine(Jcl s _ h hs).mono ?_;rw[HF.out];rintro e w1 ⟨rfl,rfl⟩)
      | (go_at_call 341;refine(Jeu t _ ht).mono ?_;rw[HD.out];rintro e w1 ⟨rfl,rfl⟩))
     go_ret;unfold Jh7;rw[HO.out];exact⟨xs,rfl,h,(qa0 rfl).symm,by omega,Chg.refl _ _,Ja0.refl _ _⟩
   obtain⟨T,hn⟩:=Jbt hf;have OL:=Jp4 a.held zs;obtain⟨O,hO⟩:=exE ((outAll a.held zs).2);have HO:=zI (show Jeh xs s.data.toList t zs=O from by unfold Jeh;rw[hf,hO];exact qa0 U);have Hb:=zI (show(outAll a.held zs).2=O from hO.symm);have Hc:=zI (show(outAll a.held zs).1=lessU a.held O from by rw[hO];exact OL.left);have Hd:O.Nodup:=by rw[hO];exact OL.nodup
   have d:∀z∈O,z∈a.held:=fun z hz=>(OL.sub z (by rw[<- hO];exact hz)).1;have S:∀z∈O,z∈us:=fun z hz=>h.sub T z (d z hz);have He:=zI (Jk6 h.pool.set.rising.nodup Hd S);have Ke:O.length<=4096:=by have:=He.out;have:=h.few;omega
   have HN:=zI hn;have R:=zI S;have F:=zI d;have HD:=zI (qaj U);have H2:=zI U;have I:=h.acc a T
   have Hf:Ja6 n (lessU us O) (setA xs a.name (Jet (lessU a.held O))):=by
    refine h.law.setTo h.apart (fun x l y hy=>h.mem.one l hy) T (fun _=>rfl) (h.law.pos a T) ?_ (fun z=> ?_) (fun z hz=> ?_)
    · show sumL xs - a.left+a.left+_<=n
      have:=h.law.room;have:=He.out;omega
    · show z∈lessU us O↔z∈lessU a.held O\/(z∈us/\z∉a.held)
      unfold lessU;rw[qbf,qbf];have h1:=h.sub T z;have U:=F.out z;simp only[qbc];by_cases hz:z∈a.held
      · simp[hz,h1 hz]
      · simp[hz];exact fun _ ho=>hz (U ho)
    · exact .inl (qbf.1 (show z∈lessU a.held O from hz)).1
   have Hg:sumL (setA xs a.name (Jet (lessU a.held O)))=sumL xs:=by rw[Jjt h.apart T rfl];show sumL xs - a.left+a.left=_;omega
   have Hh:view (setA xs a.name (Jet (lessU a.held O)))=setV (view xs) a.name (J4c O):=Jgk (fun x l e=>by rw[h.mem.one l T e];rfl);have H:=zI Hf;have Hi:=zI Hg;have P:=zI Hh;clear U hf hn S d OL hO Hd Hf Hg Hh;by_cases h0:O.length=0
   · have Ht:((O.length:Int)==0)=true:=beq_iff_eq.2 (by omega)
     have HE:=zI (qa5 h0);clear h0;go_enter Tryz.func293,Tryz.ntmps293
     go_wp2_with (first
      | (go_at_call 146;refine(Jcl s _ h hs).mono ?_;rw[HF.out];rintro e w1 ⟨rfl,rfl⟩)
      | (go_at_call 341;refine(Jeu t _ ht).mono ?_;rw[HD.out];rintro e w1 ⟨rfl,rfl⟩)
      | (go_at_call 344;refine(Jsj B a A k c zs _ I hz hk).mono ?_;rintro e w2 ⟨v,rfl,r,u,Z⟩
         rw[Hb.out] at r;rw[Hc.out] at u;obtain⟨A2,c2,rfl,Y⟩:=own_ints r (fun z hz=>by have:=h.pool.ins z (R.out z hz);have:=h.pool.rng;exact wf_i64 (by omega)) (by unfold maxLen;omega);have L:=h.mem.heldTo T u Z))
     go_ret;unfold Jh7;rw[HO.out];have hE:=HE.out;subst hE;have hl:=H.out;have Hu:lessU us []=us:=qbx.2 (by simp);rw[Hu] at hl;refine⟨_,rfl,⟨L,hl⟩,?_,by rw[Jdl];omega,Jdk (Chg.refl _ _) Z (fun j G=>by cases G;exact .inl (LedF.held T)),(Ja0.refl _ _).toH _ _⟩;rw[P.out];show setV (view xs) a.name (J4c [])=if ([]:List Int)=[] then view xs else _;rw[qa0 rfl];unfold setV
     conv=>rhs;rw[<- List.map_id (view xs)]
     apply qcv;intro v _;split
     · show(v.1,v.2.1,lessU v.2.2 [])=v
       rw[show lessU v.2.2 []=v.2.2 from qbx.2 (by simp)]
     · rfl
   · have Ht : ((O.length:Int)==0)=false:=qat.2 (by omega)
     have Kf:decide ((O.length:Int)=0)=false:=qae (by omega);have HE:=zI (show O≠[] from fun e=>h0 (by rw[e];rfl));have Hj:=Jmm h.own;go_enter Tryz.func293,Tryz.ntmps293
     go_wp2_with (first
      | (go_at_call 146;refine(Jcl s _ h hs).mono ?_;rw[HF.out];rintro e w1 ⟨rfl,rfl⟩)
      | (go_at_call 341;refine(Jeu t _ ht).mono ?_;rw[HD.out];rintro e w1 ⟨rfl,rfl⟩)
      | (go_at_call 344;refine(Jsj B a A k c zs _ I hz hk).mono ?_;rintro e w2 ⟨v,rfl,r,u,Z⟩
         rw[Hb.out] at r;rw[Hc.out] at u;obtain⟨A2,c2,rfl,Y⟩:=own_ints r (fun z hz=>by have:=h.pool.ins z (R.out z hz);have:=h.pool.rng;exact wf_i64 (by omega)) (by unfold maxLen;omega);have L:=h.mem.heldTo T u Z;have Hk:B<=w2.heap.size:=qax hB Z.size;have E:(setA xs a.name (Jet (lessU a.held O))).length<1000000:=by rw[Jdl];exact hfew)
      | (go_at_call 342;refine(Jug t _ L H2.out Hk E).mono ?_;rintro e w3 ⟨ys,x,rfl,l,Hl,q,N,Hm,Hv,D,Hn⟩
         have K:=Jfs Y D (Jmm L.own);have Ho:=zI Hl;have Hp:=zI Hm;have Hq:=zI (N _ H.out);clear Hl Hm N))
     have W:Jbn w3 x.hb x.held:=(q.acc x l).set;obtain⟨d0,d1,d2⟩:=(q.acc x l).cells;have Hw:x.ab≠x.hb:=(q.acc x l).ne (q.acc x l);have Hx:x.ab<w3.heap.size:=qcb (q.acc x l).blk;have C:Chg (LedF m mm xs) w w3:=Jdk (Jdk (Chg.refl _ _) Z (fun j G=>by cases G;exact .inl (LedF.held T))) D (fun j G=>by cases G;exact .inl (LedF.map _ _ _));have Hr:Ja0 w.heap.size xs ys:=((Ja0.refl _ _).toH _ _).trans Hn Z.size;have Kg:B<=w3.heap.size:=qax Hk D.size
     have Hy:=zI (show(x.held.length:Int)<=n from by
      have:=Jgh W.rising (a:=f) (b:=f+n) (by have:=h.pool.rng;omega) (fun z hz=>h.pool.ins z (by
       have:=(Hq.out.held z).2 ⟨x,l,hz⟩;exact(qbf.1 this).1))
      omega)
     have Kh:=h.few.2.2.1;clear Y r u d0 d2 Hj;go_loopw [35] (fun i wr=>∃j:Nat,j<=O.length/\i= .int .i64 j/\Jbn wr x.hb (insAll x.held (O.take j))/\w3.grownBy wr (some x.hb)) (fun i _=>O.length - (intOf i).toNat)
     case atStart=>exact⟨0,qaq _,rfl,W,qcc _ _⟩
     case round =>
      obtain⟨j,G,rfl,u,o⟩:=hrel;by_cases hJ:j<O.length
      · have p:=Jfs K o W.nocell
        obtain⟨b,off,rfl,hb,hc⟩:=p.get hJ;have Hz:=p.wf _ (qan hJ);have H0:wr.cell? ⟨x.ab,1,none⟩=some (.map (some x.hb)):=(qbk (a:=⟨x.ab,1,none⟩) (o.block _ Hx (fun e=>Hw (by injection e)))).trans d1
        have Kc:(insAll x.held (O.take j)).length<=8192:=by
         have h1:=len_insAll_le (O.take j) x.held;have U:=Hy.out;rw[qao] at h1;omega
        have H9:=zI (show insAll x.held (O.take (j+1))=ins O[j] (insAll x.held (O.take j)) from by rw[qam hJ,Jg9]);clear p;go_wp2_with (at_mapUpdate;refine wpList_mapUpdate_own _ rfl _ _ _ 233 rfl 3 234 Jcu Tryz.underlying233 _ x.hb _ (setD (insAll x.held (O.take j))) rfl u.own (by unfold maxLen;omega) _ _ _ rfl rfl (keyOf_int_mk Tryz.underlying3 Hz) _ [] unitElem_mk ?_;intro w5 V J)
        rw[Jno _ _ u.rising] at V;have Ha:Jbn w5 x.hb (insAll x.held (O.take (j+1))):=by rw[H9.out];exact Jbn.of_own V (Jct u.rising)
        clear V;go_wp2;go_roundw
        case rel=>exact⟨j+1,by omega,by go_num,Ha,Jas o J⟩
        case measure=>simp[intOf];omega
      · have Ka :=zI (show O.take j=O from qap (by omega))
        rw[Ka.out] at u;have Kb:=q.heldTo l u o;have hd:decide ((j:Int)<(O.length:Int))=false:=qae (by omega);go_wp2_with fail
        go_ret;unfold Jh7;rw[HO.out];have hv:=Hp.out;have hL:=Hq.out;have Kd:sumL ys=sumL xs:=(by rw[sumV,hv,Jp1,<- sumV,Hi.out]);refine⟨_,rfl,⟨Kb,?_⟩,?_,by rw[Jdl];have:=Hv;rw[Jdl] at this;exact this,Jdk C o (fun j G=>by cases G;exact Hr.inF (LedF.held l)),Hr.toH _ _⟩
        · refine hL.setTo q.apart (fun y hy z hz=>q.one hy hz) l (fun _=>rfl) (hL.pos x l) ?_ (fun z=> ?_) (fun z hz=> ?_)
          · show sumL ys - x.left+x.left+_<=n
            have:=h.law.room;omega
          · show z∈us↔z∈insAll x.held O\/(z∈lessU us O/\z∉x.held)
            have h1:z∈x.held ->z∈us:=fun hz=>(qbf.1 ((hL.held z).2 ⟨x,l,hz⟩)).1;have U:=R.out z;rw[mem_insAll];unfold lessU;rw[qbf];simp only[qbc];constructor
            · intro hz
              by_cases M:z∈O
              · exact .inl (.inr M)
              · by_cases h4:z∈x.held
                · exact .inl (.inl h4)
                · exact .inr ⟨⟨hz,M⟩,h4⟩
            · rintro((M | M) | ⟨⟨M,_⟩,_⟩)
              · exact h1 M
              · exact U M
              · exact M
          · rcases mem_insAll.1 (show z∈insAll x.held O from hz) with hz | hz
            · exact .inl hz
            · refine .inr (fun M=> ?_)
              have:=(qbf.1 M).2;simp at this;exact this hz
        · unfold Jy4
          rw[qay HE.out,<- HN.out,<- P.out,<- Ho.out];have Hs:=Hp.out;rw[<- Ho.out] at Hs;rw[<- Hs];exact Jgk (fun y hy e=>by rw[q.one hy l e];rfl)
