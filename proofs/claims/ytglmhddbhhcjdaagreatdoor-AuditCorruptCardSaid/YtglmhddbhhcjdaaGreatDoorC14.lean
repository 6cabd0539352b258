/- Laws that the walk of the last text wants. -/
import Derived.Maps.Ext
import Derived.Test.YtglmhddbhhcjdaaGreatDoorC8
set_option maxRecDepth 100000
set_option linter.unusedSimpArgs false
set_option maxHeartbeats 4000000
namespace Go.Proofs.YtglmhddbhhcjdaaGreatDoor.Led
open Go.RowKit Go.Maps
def freeIn (f:Int) (us:List Int) (a:Nat):List Int:=((List.range a).map fun (j:Nat)=>f+(j:Int)).filter fun z=>decide (z∉us)
theorem Jse(f:Int)(us:List Int):freeIn f us 0=[]:=rfl
theorem Jk0(f:Int)(us:List Int)(a:Nat):freeIn f us (a+1)=freeIn f us a++(if f+(a:Int)∈us then [] else [f+(a:Int)]):=by
 unfold freeIn;rw[qbw,qbg,qcz]
 congr 1
 by_cases h:f+(a:Int)∈us<;>simp[h]
theorem mem_freeIn{f:Int}{us:List Int}{a:Nat}{z:Int}:z∈freeIn f us a↔f<=z/\z<f+a/\z∉us:=by
 unfold freeIn;simp only[qbf,qbn,qce,qbc];constructor
 · rintro⟨⟨j,x,rfl⟩,h⟩;exact⟨by omega,by omega,h⟩
 · rintro⟨w,v,y⟩;exact⟨⟨(z - f).toNat,by omega,by omega⟩,y⟩
theorem Jjg(f:Int)(a:Nat):Rising ((List.range a).map fun (j:Nat)=>f+(j:Int)):=by
 unfold Rising;rw[List.pairwise_map];exact List.Pairwise.imp (fun {x y} (h:x<y)=>by omega) List.pairwise_lt_range
theorem rising_freeIn(f:Int)(us:List Int)(a:Nat):Rising (freeIn f us a):=List.Pairwise.filter _ (Jjg f a)
theorem Jfz{α:Type}(p:α ->Bool):∀l:List α,(l.filter p).length+(l.filter fun x=> !p x).length=l.length
 | []=>rfl
 | x::r=>by
   have:=Jfz p r;cases h:p x<;>simp[h]<;>omega
theorem freeIn_len{f:Int}{us:List Int}{n:Nat}(hr:Rising us)(hi:∀z∈us,f<=z/\z<f+n):(freeIn f us n).length+us.length=n:=by
 have w:((List.range n).map fun (j:Nat)=>f+(j:Int)).filter (fun z=>decide (z∈us))=us:=
  Jdn (List.Pairwise.filter _ (Jjg f n)) hr (fun x=>by
   simp only[qbf,qbn,qce,qbc];constructor
   · exact fun h=>h.2
   · intro h;have:=hi x h;exact⟨⟨(x - f).toNat,by omega,by omega⟩,h⟩)
 have y:=Jfz (fun z=>decide (z∈us)) ((List.range n).map fun (j:Nat)=>f+(j:Int));rw[w] at y
 have v:(((List.range n).map fun (j:Nat)=>f+(j:Int)).filter fun z=> !decide (z∈us))=freeIn f us n:=by
  unfold freeIn;apply qb9;intro x _;simp
 rw[v] at y;simp at y;omega
theorem Jn7{f:Int}{us:List Int}{a n:Nat}(h:a<=n):(freeIn f us n).take (freeIn f us a).length=freeIn f us a:=by
 induction n with
 | zero => have:a=0:=by omega
           subst this;rfl
 | succ n ih=>
   by_cases e:a=n+1
   · subst e;exact qca
   · rw[Jk0,qcr,ih (by omega)]
     have:=congrArg List.length (ih (by omega));rw[qao] at this;omega
def Jdc (f n:Int) (us:List Int) (k:Int):List Int×Int:=
 if k<0 then ([],1) else if n - us.length<k then ([],20) else ((freeIn f us n.toNat).take k.toNat,0)
def Jh3 (g m:Nat) (f n:Int) (us:List Int) (k:Int) (w:World) (e:Ending) (w':World):Prop:=
 ∃v,e= .returned (.tuple #[v,((Jdc f n us k).2:Int)])/\w'.ownsRow w.heap.size 3 1 v (Jdc f n us k).1.length ((Jdc f n us k).1.map (Value.int .i64))/\
  Jaz w' g m f n (insAll us (Jdc f n us k).1)/\w.grownBy w' (some m)
theorem Jgi:(Tryz.prog.info? 3).map (fun i=>(i.zero,i.size,i.bytes))=some (some (.int .i64 0),1,8):=by kernel_rfl
theorem own_ints{w:World}{base:Nat}{v:Value}{zs:List Int}(h:w.ownsRow base 3 1 v zs.length (zs.map (Value.int .i64)))(hs:∀z∈zs,(Lit.int .i64 z).wf=true)(hl:zs.length<=maxLen):
  ∃A c,v= .slice A zs.length c/\Ints w .i64 A zs.length zs:=by
 rcases h.2 with⟨rfl,y⟩ | ⟨g,cap,cur,rfl,_,x,_,_,_,_⟩
 · have t:zs=[]:=by simpa using y
   subst t;exact⟨none,0,rfl,Sl.nil _ _,rfl,by decide,by simp⟩
 · exact⟨some ⟨g,0,none⟩,cap,rfl,⟨fun _=>⟨g,0,rfl,qcb x,fun j u hu=>by
    have s:j<zs.length:=by have:=(qbs.1 hu).1;simpa using this
    rw[qa7,h.cellAt j (by omega)];exact hu⟩⟩,rfl,hl,hs⟩
theorem own_below{w w':World}{base:Nat}{e:TypeId}{size:Nat}{v:Value}{n:Nat}{xs:List Value}(h:w.ownsRow base e size v n xs)(hb:Below w.heap.size w w'):w'.ownsRow base e size v n xs:=
 h.kept (Jab hb none) (Classical.em _)
theorem J3x(g m:Nat)(f n:Int)(us:List Int)(k:Int)(w:World)(h:Jaz w g m f n us)(hk: -9223372036854775808<=k/\k<=9223372036854775807):
  Cs 343 #[g,(k:Int)] w (Jh3 g m f n us k w):=by
 obtain⟨hJ,Ha⟩:=hk;by_cases P:k<0
 · have W:=zI (show Jdc f n us k=([],1) from qa0 P)
   go_enter Tryz.func343,Tryz.ntmps343;go_wp2_with fail
   go_ret2;unfold Jh3;rw[W.out];exact⟨_,rfl,qaz _ _ _ _,h,qcc _ _⟩
 · have Hb :=h.size_le
   obtain⟨Hc,Hd,He,Hf,l⟩:=h.rng;by_cases C:n - us.length<k
   · have W:=zI (show Jdc f n us k=([],20) from by unfold Jdc;rw[qay P,qa0 C])
     clear l;go_enter Tryz.func343,Tryz.ntmps343;go_wp2_with fail
     refine(Jnu g m f n us w h).mono ?_;rintro e w1 ⟨rfl,B⟩;go_wp2_with fail
     go_ret2;unfold Jh3;rw[W.out];exact⟨_,rfl,qaz _ _ _ _,h.below B,Jab B _⟩
   · have W:=zI (show Jdc f n us k=((freeIn f us n.toNat).take k.toNat,0) from by unfold Jdc;rw[qay P,qay C])
     obtain⟨kn,M⟩:∃kn:Nat,k=kn:=⟨k.toNat,by omega⟩;obtain⟨nn,L⟩:∃nn:Nat,n=nn:=⟨n.toNat,by omega⟩;subst M L;have V:=freeIn_len (n:=nn) h.set.rising h.ins;have Hg:=zI V;have Hh:kn<=(freeIn f us nn).length:=(by omega);clear V;obtain⟨i0,hi,K,J,I⟩:=qb2 Jgi;have U:=zI l;clear l;go_enter Tryz.func343,Tryz.ntmps343;go_wp2_with fail
     refine(Jnu g m f nn us w h).mono ?_;rintro e w1 ⟨rfl,H⟩;go_wp2_with fail
     go_loopw [6,7] (fun v i wr=>∃a:Nat,a<=nn/\i= .int .i64 a/\(freeIn f us a).length<=kn/\wr.ownsRow w.heap.size 3 1 v (freeIn f us a).length ((freeIn f us a).map (Value.int .i64))/\Below w.heap.size w wr) (fun _ i _=>nn - (intOf i).toNat)
     case atStart=>exact⟨0,qaq _,rfl,by simp[Jse],qaz _ _ _ _,H⟩
     case round=>
      obtain⟨a,ha,rfl,T,x,y⟩:=hrel;obtain⟨A,c,rfl,d⟩:=own_ints x (fun z hz=>wf_i64 (by have:=mem_freeIn.1 hz;have:=U.out;omega)) (by unfold maxLen;omega);by_cases Hi:(freeIn f us a).length<kn
      · have Hj:a<nn:=by
         rcases Nat.lt_or_ge a nn with O | O
         · exact O
         · have:a=nn:=by omega
           subst this;omega
        have Hk:f<=4096:=by rcases U.out with O | O<;>omega
        have b:=h.below y;obtain⟨c0,c1,c2⟩:=b.cells;have HX:=zI (Jk0 f us a);by_cases N:f+(a:Int)∈us
        · have r:=zI (show freeIn f us (a+1)=freeIn f us a from by rw[HX.out,qa0 N,qbp])
          have G:=zI (qaj N);go_wp2_with (go_at_call 391;refine(Jnt g m f nn us (f+a) wr b (wf_i64 ⟨by omega,by omega⟩)).mono ?_;rintro e w2 ⟨rfl,t⟩;rw[G.out])
          go_roundw
          case rel=>exact⟨a+1,by omega,by go_num,by rw[r.out];exact T,by rw[r.out];exact own_below x t,y.trans (t.mono y.size)⟩
          case measure=>simp[intOf];omega
        · have r:=zI (show freeIn f us (a+1)=freeIn f us a++[f+(a:Int)] from by rw[HX.out,qay N])
          have G:=zI (qae N);go_wp2_with fail
          refine(Jnt g m f nn us (f+a) wr b (wf_i64 ⟨by omega,by omega⟩)).mono ?_;rintro e w2 ⟨rfl,t⟩;rw[G.out];have q:=own_below x t;have p:=y.trans (t.mono y.size);obtain⟨d0,d1,d2⟩:=(b.below t).cells;clear c0 c1 c2;go_wp2_with (at_builtin;refine qdl _ rfl _ _ 24 rfl w.heap.size 3 i0 (0:Int) 1 8 Tryz.underlying24 hi K J I rfl (by decide) _ _ _ rfl (q.alloc _) ⟨w2.heap.size,0,none⟩ 1 1 [(f+a:Int)] rfl rfl (cell_one_new _ _ _) (ints_oneCell _ [f+(a:Int)]) ?c3 ?c4 ?c5 ?_)
          case c3=>unfold maxLen;omega
          case c4=>omega
          case c5=>have:=p.size;simp;omega
          intro v' w3 Z u _;have F:=(p.alloc p.size _).grown u (by have:=p.size;simp;omega) (fun j hj=>(x.lt j hj).1);clear q u;go_wp2;go_roundw
          case rel=>exact⟨a+1,by omega,by go_num,by rw[r.out];simp;omega,by rw[r.out];simpa using Z,F⟩
          case measure=>simp[intOf];omega
      · have o:(freeIn f us a).length=kn:=by omega
        have HR:=zI (show(freeIn f us nn).take kn=freeIn f us a from by rw[<- o];exact Jn7 ha);have hd:decide (((freeIn f us a).length:Int)<(kn:Int))=false:=by simp;omega
        have S:=zI (show Jdc f nn us kn=(freeIn f us a,0) from by rw[W.out];simp only[qc3];rw[HR.out]);have b:=h.below y;by_cases E:kn=0
        · have e0:freeIn f us a=[]:=qa5 (by omega)
          have R:decide ((0:Int)<(kn:Int))=false:=by simp;omega
          have Hl: ¬ 0<kn:=(by omega);have HE:=zI e0;clear e0 o E;go_wp2_with fail
          go_ret2;unfold Jh3;rw[S.out];exact⟨_,rfl,x,by rw[HE.out];exact b,Jab y _⟩
        · have R:(0:Int)<(kn:Int):=by omega
          have Hm:=zI o;clear o;go_wp2_with fail
          refine(J62 g m f nn us A _ c (freeIn f us a) wr b d (fun z hz=>by have:=mem_freeIn.1 hz;omega)).mono ?_;rintro e w4 ⟨rfl,D,s⟩
          have Y:=x.kept s (by
           right
           intro e;have P:=(x.lt m e).1;have:=h.set.lt;omega)
          go_wp2_with fail
          go_ret2;unfold Jh3;rw[S.out];exact⟨_,rfl,Y,D,Jas (Jab y _) ⟨s.os,s.tape,s.output,s.size,s.block⟩⟩
def Jed (s:List Int×Int) (z:Int):List Int×Int:=if z∈s.1 then (s.1.filter (fun x=>decide (x≠z)),s.2+1) else s
def Jbw (us:List Int) (zs:List Int):List Int×Int:=zs.foldl Jed (us,0)
theorem Jjh(us zs:List Int)(z:Int):Jbw us (zs++[z])=Jed (Jbw us zs) z:=by simp[Jbw,qb8]
theorem J7j(us:List Int):∀zs:List Int,0<=(Jbw us zs).2/\(Jbw us zs).2<=zs.length:=by
 intro zs;obtain⟨ys,rfl⟩:∃ys:List Int,zs=ys.reverse:=⟨zs.reverse,by simp⟩
 induction ys with
 | nil=>simp[Jbw]
 | cons y r ih=>
   rw[qby,Jjh];unfold Jed;split<;>simp only[qad,qa3,qbo]<;>omega
theorem Jyx{w:World}{b n:Nat}{us:List Int}{z:Int}(h:w.ownsMap Tryz.prog 3 (unitElem (H:=Unit)) b n ((setD us).del (.int .i64 z)))(hr:Rising us):Jbn w b (us.filter fun x=>decide (x≠z)):=by
 rw[J25] at h;exact Jbn.of_own h (List.Pairwise.filter _ hr)
theorem Jua(g m:Nat)(f n:Int)(us:List Int)(A:Option Addr)(k c:Nat)(zs:List Int)(w:World)(h:Jaz w g m f n us)(hz:Ints w .i64 A k zs):
  Cs 345 #[g,.slice A k c] w fun e w'=>e= .returned ((Jbw us zs).2:Int)/\Jaz w' g m f n (Jbw us zs).1/\w.grownBy w' (some m):=by
 have M:=hz.n_le;have P:=zI hz.len;unfold maxLen at M;go_enter Tryz.func345,Tryz.ntmps345;go_wp2;go_loopw [5,10] (fun q i wr=>∃j:Nat,j<=k/\i= .int .i64 j/\q= .int .i64 (Jbw us (zs.take j)).2/\Jaz wr g m f n (Jbw us (zs.take j)).1/\w.grownBy wr (some m)) (fun _ i _=>k - (intOf i).toNat)
 case atStart=>exact⟨0,qaq _,rfl,rfl,h,qcc _ _⟩
 case round=>
  obtain⟨j,L,rfl,rfl,t,s⟩:=hrel;by_cases U:j<k
  · have K:j<zs.length:=by rw[P.out];exact U
    obtain⟨b,off,rfl,J,I⟩:=(Jfs hz s h.set.nocell).get K;have p:=hz.wf _ (qan K);have V:=zI (show Jbw us (zs.take (j+1))=Jed (Jbw us (zs.take j)) zs[j] from by rw[qam K,Jjh]);have d:=J7j us (zs.take j);rw[qao] at d;obtain⟨O,a⟩:=d;have N:(Jbw us (zs.take j)).2<=j:=(by omega);clear a;generalize Jbw us (zs.take j)=S at*;generalize zs[j]'K=z at*;by_cases l:z∈S.1
    · have Z:=zI (show Jed S z=(S.1.filter (fun x=>decide (x≠z)),S.2+1) from qa0 l)
      have T:=zI (qaj l);clear l;go_wp2_with fail
      refine(Jnt g m f n S.1 z wr t p).mono ?_;rintro e w2 ⟨rfl,v⟩;rw[T.out];have r:=t.below v;obtain⟨c0,c1,c2⟩:=r.cells;have Y:=r.set.own;go_wp2_with (at_delete;refine wpList_delete_own _ rfl _ _ 233 3 rfl 234 Jcu Tryz.underlying233 _ m _ (setD S.1) rfl Y _ _ rfl (keyOf_int_mk Tryz.underlying3 p) ?_;intro w3 u y)
      have o:=y.grown
      have R:Jaz w3 g m f n (Jbw us (zs.take (j+1))).1:=by
       rw[V.out,Z.out];exact⟨r.blk.keep (o.block g r.lt (fun e=>t.ne (by injection e))),Jyx u t.set.rising,t.rng,fun z hz'=>t.ins z (qbf.1 hz').1⟩
      have W:=Jas s (Jas (Jab v _) o);clear u y o;go_wp2;go_roundw
      case rel=>exact⟨j+1,by omega,by go_num,by rw[V.out,Z.out],R,W⟩
      case measure=>simp[intOf];omega
    · have Z:=zI (show Jed S z=S from qay l)
      have T:=zI (qae l);clear l;go_wp2_with fail
      refine(Jnt g m f n S.1 z wr t p).mono ?_;rintro e w2 ⟨rfl,v⟩;rw[T.out];go_wp2;go_roundw
      case rel=>exact⟨j+1,by omega,by go_num,by rw[V.out,Z.out],by rw[V.out,Z.out];exact t.below v,Jas s (Jab v _)⟩
      case measure=>simp[intOf];omega
  · have e1:=zI (show zs.take j=zs from qap (by rw[P.out];omega))
    go_wp2;go_ret;rw[e1.out] at t;exact⟨by rw[e1.out];rfl,t,s⟩
structure Acc where
 name:List UInt8
 left:Int
 held:List Int
 ab:Nat
 hb:Nat
def Jba (xs:List Acc) (n:List UInt8):Option Acc:=xs.find? (fun a=>a.name==n)
def insA (x:Acc):List Acc ->List Acc
 | []=>[x]
 | y::r=>if bytesBefore x.name y.name then x::y::r else y::insA x r
def setA (xs:List Acc) (n:List UInt8) (f:Acc ->Acc):List Acc:=xs.map fun a=>if a.name=n then f a else a
def sumL (xs:List Acc):Int:=(xs.map Acc.left).sum
theorem Jbt{xs:List Acc}{n:List UInt8}{a:Acc}(h:Jba xs n=some a):a∈xs/\a.name=n:=by
 unfold Jba at h;exact⟨List.mem_of_find?_eq_some h,by have:=List.find?_some h;simpa using this⟩
theorem Jiy{xs:List Acc}{n:List UInt8}(h:Jba xs n=none):∀a∈xs,a.name≠n:=by
 unfold Jba at h;intro a z e;have:=List.find?_eq_none.1 h a z;simp[e] at this
theorem Jbh{x y:Acc}:∀ {xs:List Acc},y∈insA x xs↔y=x\/y∈xs
 | []=>by simp[insA]
 | z ::r=>by
   unfold insA;split
   · simp
   · simp[Jbh (xs:=r)]
     constructor
     · rintro(h | h | h)<;>simp[h]
     · rintro(h | h | h)<;>simp[h]
theorem Jub(x:Acc):∀xs:List Acc,(insA x xs).length=xs.length+1
 | []=>rfl
 | z::r=>by
   unfold insA;split
   · rfl
   · simp[Jub x r]
theorem Juc(x:Acc):∀xs:List Acc,sumL (insA x xs)=x.left+sumL xs
 | []=>by simp[sumL,insA]
 | z ::r=>by
   unfold insA;split
   · simp[sumL]
   · have:=Juc x r
     simp only[sumL,qbz,qda] at this ⊢;omega
theorem Je6{xs:List Acc}{n:List UInt8}{f:Acc ->Acc}{y:Acc}:y∈setA xs n f↔∃a∈xs,y=if a.name=n then f a else a:=by
 unfold setA;rw[qbn];constructor
 · rintro⟨a,h,rfl⟩;exact⟨a,h,rfl⟩
 · rintro⟨a,h,rfl⟩;exact⟨a,h,rfl⟩
theorem Jpy{xs:List Acc}{n:List UInt8}{f:Acc ->Acc}(h:∀a∈xs,a.name≠n):setA xs n f=xs:=by
 unfold setA
 conv=>rhs;rw[<- List.map_id xs]
 exact qcv (fun a ha=>by simp[h a ha])
theorem Jjt{n:List UInt8}{f:Acc ->Acc}:∀ {xs:List Acc} {a:Acc},xs.Pairwise (fun x y=>x.name≠y.name) ->a∈xs ->a.name=n ->sumL (setA xs n f)=sumL xs - a.left+(f a).left
 | [],_,_,h,_=>by simp at h
 | z ::r,a,hp,h,hn=>by
   rw[qa9] at hp;rcases qbb.1 h with rfl | h
   · have e:setA r n f=r:=Jpy (fun y hy=>by have:=hp.1 y hy;rw[hn] at this;exact fun e=>this e.symm)
     show sumL ((if a.name=n then f a else a)::setA r n f)=_;rw[e,qa0 hn];simp only[sumL,qbz,qda];omega
   · have w:z.name≠n:=by have:=hp.1 a h;rw[hn] at this;exact this
     have ih:=Jjt (f:=f) hp.2 h hn;show sumL ((if z.name=n then f z else z)::setA r n f)=_;rw[qay w];simp only[sumL,qbz,qda] at ih ⊢;omega
theorem Jk1(a:Acc):∀ {xs:List Acc},xs.Pairwise (fun x y=>x.name≠y.name) ->a∈xs ->∀p:Acc ->Bool,p a=false ->
  sumL (xs.filter fun x=>p x || decide (x.name=a.name))=sumL (xs.filter p)+a.left
 | [],_,h,_,_=>by simp at h
 | z ::r,hp,h,p,hpa=>by
   rw[qa9] at hp;rcases qbb.1 h with rfl | h
   · have e:(r.filter fun x=>p x || decide (x.name=a.name))=r.filter p:=by
      apply qb9;intro x w;have v:=hp.1 x w;rw[qae (fun e:x.name=a.name=>v e.symm),Bool.or_false]
     rw[qbv,qbv,e];simp[hpa,sumL];omega
   · have u:z.name≠a.name:=hp.1 a h
     have ih:=Jk1 a hp.2 h p hpa;rw[qbv,qbv];simp only[u,decide_false,Bool.or_false];split
     · simp only[sumL,qbz,qda] at ih ⊢
       omega
     · exact ih
theorem Jud{xs:List Acc}(h:∀a∈xs,0<=a.left):0<=sumL xs:=by
 induction xs with
 | nil=>simp[sumL]
 | cons z r ih=>
   have:=ih (fun a ha=>h a (by simp[ha]));have:=h z (by simp);simp only[sumL,qbz,qda] at*;omega
theorem Jg3{xs:List Acc}(h:∀a∈xs,0<=a.left)(p:Acc ->Bool):0<=sumL (xs.filter p)/\sumL (xs.filter p)<=sumL xs:=by
 induction xs with
 | nil=>simp[sumL]
 | cons z r ih=>
   have y:=ih (fun a ha=>h a (by simp[ha]));have x:=h z (by simp);rw[qbv];split<;>(simp only[sumL,qbz,qda] at*;omega)
theorem Jhe{xs:List Acc}(h:∀a∈xs,0<=a.left){a:Acc}(ha:a∈xs):a.left<=sumL xs:=by
 induction xs with
 | nil=>simp at ha
 | cons z r ih=>
   have y:=Jud (xs:=r) (fun a ha=>h a (by simp[ha]));have x:=h z (by simp);simp only[sumL,qbz,qda] at*;rcases qbb.1 ha with rfl | ha
   · omega
   · have:=ih (fun a ha=>h a (by simp[ha])) ha
     omega
def Jb1 (v:Value):Option (DataW Unit×List MemPlace):=match v with
 | .pointer none=>some (.nil,[])
 | .pointer (some ⟨b,0,none⟩)=>some (.lit (.int .i64 b),[])
 | _=>none
theorem Jwa(b:Nat):Jb1 b=some (.lit (.int .i64 b),[]):=rfl
theorem Jsf:Jb1 (.pointer none)=some (.nil,[]):=rfl
theorem Jhf{v:Value}{z:DataW Unit×List MemPlace}(h:Jb1 v=some z):(v= .pointer none/\z=(.nil,[]))\/∃b:Nat,v= .pointer (some ⟨b,0,none⟩)/\z=(.lit (.int .i64 b),[]):=by
 unfold Jb1 at h;split at h
 · cases h;exact .inl ⟨rfl,rfl⟩
 · next b=>cases h;exact .inr ⟨b,rfl,rfl⟩
 · cases h
def accD (xs:List Acc):DataW Unit:= .map (xs.map fun a=>(.string a.name,.lit (.int .i64 a.ab)))
theorem Jsg(xs:List Acc)(n:List UInt8)(z:DataW Unit):(accD xs).atKey (.string n) z=match Jba xs n with | some a=> .lit (.int .i64 a.ab) | none=>z:=by
 unfold accD DataW.atKey Jba;simp only[List.find?_map,Function.comp_def,Lit.sameKey];cases xs.find? (fun a=>a.name==n)<;>rfl
theorem Jpz(xs:List Acc):Maps.size (accD xs)=xs.length:=by
 unfold accD;rw[Maps.size_eq,qa4]
theorem J3y(xs:List Acc)(n:List UInt8):Maps.has (accD xs) (.string n)=xs.any (fun a=>a.name==n):=by
 unfold accD;rw[Maps.has_eq,List.any_map];rfl
theorem Jk2(xs:List Acc)(n:List UInt8):((xs.map fun a=>((.string a.name,.lit (.int .i64 a.ab)):Lit×DataW Unit)).filter fun p=> !p.1.sameKey (.string n))=(xs.filter fun a=>decide (a.name≠n)).map fun a=>(.string a.name,.lit (.int .i64 a.ab)):=by
 rw[List.filter_map]
 congr 1
 apply qb9;intro x _;rw[qcg];simp[Lit.sameKey]
theorem J3z(xs:List Acc)(n:List UInt8):(accD xs).del (.string n)=accD (xs.filter fun a=>decide (a.name≠n)):=by
 unfold accD DataW.del;simp only;rw[Jk2]
theorem Jk3(x:Acc):∀xs:List Acc,DataW.insert ((.string x.name,.lit (.int .i64 x.ab)):Lit×DataW Unit) (xs.map fun a=>(.string a.name,.lit (.int .i64 a.ab)))=(insA x xs).map fun a=>(.string a.name,.lit (.int .i64 a.ab))
 | []=>rfl
 | y::r=>by
   unfold insA;simp only[qbz,DataW.insert,Lit.before];by_cases z:bytesBefore x.name y.name=true
   · simp[z]
   · simp[z,Jk3 x r]
theorem J30(xs:List Acc)(x:Acc)(h:∀a∈xs,a.name≠x.name):(accD xs).put (.string x.name) (.lit (.int .i64 x.ab))=accD (insA x xs):=by
 unfold accD DataW.put;simp only;rw[Jk2,qbx.2 (fun a ha=>qaj (h a ha)),Jk3]
theorem J31(xs:List Acc)(n:List UInt8)(f:Acc ->Acc)(h1:∀a,(f a).name=a.name)(h2:∀a,(f a).ab=a.ab):accD (setA xs n f)=accD xs:=by
 unfold accD setA;rw[qcl]
 congr 1
 apply qcv;intro a _;simp only[Function.comp];split<;>simp[h1,h2]
theorem Jiz:Keyed Tryz.prog 9:=string_keyed Tryz.underlying9
theorem J32{w:World}{mm k:Nat}{xs:List Acc}(h:w.ownsMap Tryz.prog 9 Jb1 mm k (accD xs)):xs.Pairwise (fun x y=>x.name≠y.name):=by
 obtain⟨es,z,v,_⟩:=h.entries Jiz;have e:es=xs.map fun a=>(.string a.name,.lit (.int .i64 a.ab)):=by injection z with z;exact z.symm
 rw[e,List.pairwise_map] at v;exact v.imp (fun hab e=>hab (by rw[e]))
structure Jf0 (w:World) (B:Nat) (a:Acc):Prop where
 blk:w.heap[a.ab]? =some (.cells #[(a.left:Int),.map (some a.hb)] 236 (0,0))
 set:Jbn w a.hb a.held
 low:B<=a.ab/\B<=a.hb
theorem Jf0.cells{w:World}{B:Nat}{a:Acc}(h:Jf0 w B a):w.cell? ⟨a.ab,0,none⟩=some (.int .i64 a.left)/\w.cell? ⟨a.ab,1,none⟩=some (.map (some a.hb))/\w.frozen? ⟨a.ab,0,none⟩=false:=
 ⟨qb4 w a.ab 0 _ _ _ h.blk,qb4 w a.ab 1 _ _ _ h.blk,frozen_of_row w a.ab 0 _ _ h.blk⟩
theorem Jf0.keep{w w':World}{B:Nat}{a:Acc}{row:Option Nat}(h:Jf0 w B a)(hg:w.grownBy w' row)(h1:some a.ab≠row)(h2:some a.hb≠row):Jf0 w' B a:=
 ⟨(hg.block _ (qcb h.blk) h1).trans h.blk,h.set.grown hg h2,h.low⟩
theorem Jf0.ne{w:World}{B:Nat}{a b:Acc}(h:Jf0 w B a)(k:Jf0 w B b):a.ab≠b.hb:=by
 intro e;obtain⟨es,c,z,_⟩:=k.set.own;have:=h.blk;rw[e,z] at this;cases this
theorem Jf0.ne_map{w:World}{B b:Nat}{a:Acc}{us:List Int}(h:Jf0 w B a)(k:Jbn w b us):a.ab≠b:=by
 intro e;obtain⟨es,c,z,_⟩:=k.own;have:=h.blk;rw[e,z] at this;cases this
structure Jai (w:World) (B g m mm:Nat) (f n:Int) (us:List Int) (xs:List Acc):Prop where
 pool:Jaz w g m f n us
 c3:w.cell? ⟨g,3,none⟩=some (.map (some mm))
 own:w.ownsMap Tryz.prog 9 Jb1 mm xs.length (accD xs)
 acc:∀a∈xs,Jf0 w B a
 abs:∀a∈xs,∀b∈xs,a.ab=b.ab ->a.name=b.name
 hbs:∀a∈xs,∀b∈xs,a.hb=b.hb ->a.name=b.name
 mh:∀a∈xs,a.hb≠m/\a.hb≠mm
 mne:m≠mm
 low:B<=g/\B<=m/\B<=mm
structure Ja6 (n:Int) (us:List Int) (xs:List Acc):Prop where
 name:∀a∈xs,1<=a.name.length/\a.name.length<=15
 pos:∀a∈xs,0<=a.left
 room:sumL xs+us.length<=n
 held:∀z,z∈us↔∃a∈xs,z∈a.held
 once:∀a∈xs,∀b∈xs,∀z,z∈a.held ->z∈b.held ->a.name=b.name
structure Jad (w:World) (B g m mm:Nat) (f n:Int) (us:List Int) (xs:List Acc):Prop where
 mem:Jai w B g m mm f n us xs
 law:Ja6 n us xs
section
variable {w w':World} {B g m mm:Nat} {f n:Int} {us:List Int} {xs:List Acc}
theorem Jai.apart(h:Jai w B g m mm f n us xs):xs.Pairwise (fun x y=>x.name≠y.name):=J32 h.own
theorem Jai.one(h:Jai w B g m mm f n us xs){a b:Acc}(ha:a∈xs)(hb:b∈xs)(e:a.name=b.name):a=b:=by
 have v:=h.apart
 have key:∀ {l:List Acc},l.Pairwise (fun x y=>x.name≠y.name) ->a∈l ->b∈l ->a=b:=by
  intro l
  induction l with
  | nil=>intro _ h;simp at h
  | cons z r ih=>
    intro v ha hb;rw[qa9] at v;rcases qbb.1 ha with u | u<;>rcases qbb.1 hb with t | t
    · rw[u,t]
    · rw[<- u] at v;exact absurd e (v.1 b t)
    · rw[<- t] at v;exact absurd e.symm (v.1 a u)
    · exact ih v.2 u t
 exact key v ha hb
theorem Jai.bel(h:Jai w B g m mm f n us xs)(hb:Below w.heap.size w w'):Jai w' B g m mm f n us xs:=
 ⟨h.pool.below hb,(hb.cell (p:=⟨g,3,none⟩) h.pool.lt).trans h.c3,h.own.kept (Jab hb none) (by simp),fun a ha=>(h.acc a ha).keep (Jab hb none) (by simp) (by simp),
  h.abs,h.hbs,h.mh,h.mne,h.low⟩
theorem Jai.ab_ne(h:Jai w B g m mm f n us xs){a:Acc}(ha:a∈xs):a.ab≠g/\a.ab≠m/\a.ab≠mm:=by
 have k:=h.acc a ha;refine⟨fun e=> ?_,k.ne_map h.pool.set,fun e=> ?_⟩
 · obtain⟨tl,T,e2⟩:=h.pool.blk
   have:=k.blk;rw[e,e2] at this;injection this with this;injection this with this;have:=congrArg Array.toList this;simp at this
 · obtain⟨es,c,z,_⟩:=h.own
   have:=k.blk;rw[e,z] at this;cases this
theorem Jai.g_ne(h:Jai w B g m mm f n us xs):g≠m/\g≠mm/\∀a∈xs,g≠a.hb:=by
 obtain⟨tl,T,e2⟩:=h.pool.blk;refine⟨h.pool.ne,fun e=> ?_,fun a ha e=> ?_⟩
 · obtain⟨es,c,z,_⟩:=h.own
   rw[e,z] at e2;cases e2
 · obtain⟨es,c,z,_⟩:=(h.acc a ha).set.own
   rw[e,z] at e2;cases e2
theorem Jai.keep_c3(h:Jai w B g m mm f n us xs){row:Option Nat}(hg:w.grownBy w' row)(hne:some g≠row):w'.cell? ⟨g,3,none⟩=some (.map (some mm)):=
 (qbk (a:=⟨g,3,none⟩) (hg.block g h.pool.lt hne)).trans h.c3
theorem Jai.pooled(h:Jai w B g m mm f n us xs){us':List Int}(hp:Jaz w' g m f n us')(hg:w.grownBy w' (some m)):Jai w' B g m mm f n us' xs:=
 ⟨hp,h.keep_c3 hg (fun e=>h.g_ne.1 (by injection e)),h.own.kept hg (fun e=>h.mne (by injection e with e;exact e.symm)),
  fun a ha=>(h.acc a ha).keep hg (fun e=>(h.ab_ne ha).2.1 (by injection e)) (fun e=>(h.mh a ha).1 (by injection e)),h.abs,h.hbs,h.mh,h.mne,h.low⟩
theorem Jai.setTo(h:Jai w B g m mm f n us xs){a:Acc}(ha:a∈xs)(F:Acc ->Acc)(hF:∀x,(F x).name=x.name/\(F x).ab=x.ab/\(F x).hb=x.hb)(hp:Jaz w' g m f n us)(hc:w'.cell? ⟨g,3,none⟩=some (.map (some mm)))(ho:w'.ownsMap Tryz.prog 9 Jb1 mm xs.length (accD xs))(hacc:∀x∈xs,x.name≠a.name ->Jf0 w' B x)(hnew:Jf0 w' B (F a)):Jai w' B g m mm f n us (setA xs a.name F):=by
 have key:∀y∈setA xs a.name F,∃x∈xs,y.name=x.name/\y.ab=x.ab/\y.hb=x.hb/\Jf0 w' B y:=by
  intro y u;obtain⟨x,v,rfl⟩:=Je6.1 u;by_cases e:x.name=a.name
  · have e2:x=a:=h.one v ha e
    subst e2;rw[qa0 rfl];exact⟨x,v,(hF x).1,(hF x).2.1,(hF x).2.2,hnew⟩
  · rw[qay e]
    exact⟨x,v,rfl,rfl,rfl,hacc x v e⟩
 refine⟨hp,hc,?_,fun y u=> ?_,fun y u z hz e=> ?_,fun y u z hz e=> ?_,fun y u=> ?_,h.mne,h.low⟩
 · rw[J31 xs _ F (fun x=>(hF x).1) (fun x=>(hF x).2.1)]
   have:(setA xs a.name F).length=xs.length:=by unfold setA;simp
   rw[this];exact ho
 · obtain⟨_,_,_,_,_,k⟩:=key y u;exact k
 · obtain⟨x,v,e1,e2,e3,_⟩:=key y u
   obtain⟨x',t,e1',e2',e3',_⟩:=key z hz;rw[e1,e1'];exact h.abs x v x' t (by rw[<- e2,<- e2',e])
 · obtain⟨x,v,e1,e2,e3,_⟩:=key y u
   obtain⟨x',t,e1',e2',e3',_⟩:=key z hz;rw[e1,e1'];exact h.hbs x v x' t (by rw[<- e3,<- e3',e])
 · obtain⟨x,v,e1,e2,e3,_⟩:=key y u
   rw[e3];exact h.mh x v
def Jes (v:Int) (a:Acc):Acc:=⟨a.name,v,a.held,a.ab,a.hb⟩
def Jet (S:List Int) (a:Acc):Acc:=⟨a.name,a.left,S,a.ab,a.hb⟩
theorem Jai.left(h:Jai w B g m mm f n us xs){a:Acc}(ha:a∈xs)(v:Int):Jai (w.setCell ⟨a.ab,0,none⟩ (v:Int)) B g m mm f n us (setA xs a.name (Jes v)):=by
 have k:=h.acc a ha;obtain⟨n1,n2,n3⟩:=h.ab_ne ha;have z:w.grownBy (w.setCell ⟨a.ab,0,none⟩ (v:Int)) (some a.ab):=⟨rfl,rfl,rfl,by simp,fun i _ hne=>heap_setCell_other w ⟨a.ab,0,none⟩ i _ (fun e=>hne (by rw[e]))⟩
 refine h.setTo ha (Jes v) (fun x=>⟨rfl,rfl,rfl⟩) (h.pool.far z (fun e=>n1 (by injection e with e;exact e.symm)) (fun e=>n2 (by injection e with e;exact e.symm)))
  (h.keep_c3 z (fun e=>n1 (by injection e with e;exact e.symm))) (h.own.kept z (fun e=>n3 (by injection e with e;exact e.symm))) (fun x hx hne=> ?_) ?_
 · exact(h.acc x hx).keep z (fun e=>hne (h.abs x hx a ha (by injection e))) (fun e=>k.ne (h.acc x hx) (by injection e with e;exact e.symm))
 · exact⟨qdb w a.ab 0 _ _ _ k.blk,k.set.grown z (fun e=>k.ne k (by injection e with e;exact e.symm)),k.low⟩
theorem Jai.heldTo(h:Jai w B g m mm f n us xs){a:Acc}(ha:a∈xs){S:List Int}(hs:Jbn w' a.hb S)(hg:w.grownBy w' (some a.hb)):Jai w' B g m mm f n us (setA xs a.name (Jet S)):=by
 have k:=h.acc a ha;obtain⟨n1,n2⟩:=h.mh a ha
 refine h.setTo ha (Jet S) (fun x=>⟨rfl,rfl,rfl⟩) (h.pool.far hg (fun e=>h.g_ne.2.2 a ha (by injection e)) (fun e=>n1 (by injection e with e;exact e.symm)))
  (h.keep_c3 hg (fun e=>h.g_ne.2.2 a ha (by injection e))) (h.own.kept hg (fun e=>n2 (by injection e with e;exact e.symm))) (fun x hx hne=> ?_) ?_
 · exact(h.acc x hx).keep hg (fun e=>(h.acc x hx).ne k (by injection e)) (fun e=>hne (h.hbs x hx a ha (by injection e)))
 · exact⟨(hg.block _ (qcb k.blk) (fun e=>k.ne k (by injection e))).trans k.blk,hs,k.low⟩
theorem Jai.deleted(h:Jai w B g m mm f n us xs)(nm:List UInt8){k:Nat}(ho:w'.ownsMap Tryz.prog 9 Jb1 mm k (accD (xs.filter fun a=>decide (a.name≠nm))))(hg:w.grownBy w' (some mm)):
  Jai w' B g m mm f n us (xs.filter fun a=>decide (a.name≠nm)):=by
 have sub:∀ {a},a∈(xs.filter fun a=>decide (a.name≠nm)) ->a∈xs:=fun h=>(qbf.1 h).1
 refine⟨h.pool.far hg (fun e=>h.g_ne.2.1 (by injection e)) (fun e=>h.mne (by injection e)),h.keep_c3 hg (fun e=>h.g_ne.2.1 (by injection e)),?_,fun a ha=> ?_,
  fun a ha b hb=>h.abs a (sub ha) b (sub hb),fun a ha b hb=>h.hbs a (sub ha) b (sub hb),fun a ha=>h.mh a (sub ha),h.mne,h.low⟩
 · have:=Jb4 ho
   rwa [Jpz] at this
 · exact(h.acc a (sub ha)).keep hg (fun e=>(h.ab_ne (sub ha)).2.2 (by injection e)) (fun e=>(h.mh a (sub ha)).2 (by injection e))
theorem Jai.made(h:Jai w B g m mm f n us xs)(hB:B<=w.heap.size){x:Acc}(hx:x.left=0/\x.held=[]/\x.hb=w.heap.size/\x.ab=w.heap.size+1){k:Nat}(ho:w'.ownsMap Tryz.prog 9 Jb1 mm k (accD (insA x xs)))(hg:((w.alloc (.map #[] 0)).alloc (.cells #[(0:Int),.map (some w.heap.size)] 236)).grownBy w' (some mm)):
  Jai w' B g m mm f n us (insA x xs):=by
 obtain⟨x1,x2,x3,x4⟩:=hx;have hb:Below w.heap.size w ((w.alloc (.map #[] 0)).alloc (.cells #[(0:Int),.map (some w.heap.size)] 236)):=((qaa _ _).alloc (qab _) _).alloc (by simp) _;have z:=h.bel hb;have s:=h.own.lt
 have t:Jf0 ((w.alloc (.map #[] 0)).alloc (.cells #[(0:Int),.map (some w.heap.size)] 236)) B x:=
  ⟨by rw[x4,x1,x3];have:=qci (w.alloc (.map #[] 0)) (.cells #[(0:Int),.map (some w.heap.size)] 236);simpa using this,
   by rw[x2,x3];exact(Jbn.new w).alloc _,by omega,by omega⟩
 have old:∀y∈xs,y.ab<w.heap.size/\y.hb<w.heap.size:=fun y hy=>⟨qcb (h.acc y hy).blk,(h.acc y hy).set.lt⟩;refine⟨z.pool.far hg (fun e=>h.g_ne.2.1 (by injection e)) (fun e=>h.mne (by injection e)),z.keep_c3 hg (fun e=>h.g_ne.2.1 (by injection e)),?_,fun a v=> ?_,fun a v b hb e=> ?_,fun a v b hb e=> ?_,fun a v=> ?_,h.mne,h.low⟩
 · have:=Jb4 ho
   rwa [Jpz] at this
 · rcases Jbh.1 v with rfl | v
   · exact t.keep hg (fun e=>by injection e with e;omega) (fun e=>by injection e with e;omega)
   · exact(z.acc a v).keep hg (fun e=>(h.ab_ne v).2.2 (by injection e)) (fun e=>(h.mh a v).2 (by injection e))
 · rcases Jbh.1 v with u | u<;>rcases Jbh.1 hb with z | z
   · rw[u,z]
   · have:=old b z;rw[u] at e;omega
   · have:=old a u;rw[z] at e;omega
   · exact h.abs a u b z e
 · rcases Jbh.1 v with u | u<;>rcases Jbh.1 hb with z | z
   · rw[u,z]
   · have:=old b z;rw[u] at e;omega
   · have:=old a u;rw[z] at e;omega
   · exact h.hbs a u b z e
 · rcases Jbh.1 v with rfl | v
   · have:=h.pool.set.lt
     omega
   · exact h.mh a v
theorem Jad.pool(h:Jad w B g m mm f n us xs):Jaz w g m f n us:=h.mem.pool
theorem Jad.c3(h:Jad w B g m mm f n us xs):w.cell? ⟨g,3,none⟩=some (.map (some mm)):=h.mem.c3
theorem Jad.own(h:Jad w B g m mm f n us xs):w.ownsMap Tryz.prog 9 Jb1 mm xs.length (accD xs):=h.mem.own
theorem Jad.acc(h:Jad w B g m mm f n us xs):∀a∈xs,Jf0 w B a:=h.mem.acc
theorem Jad.apart(h:Jad w B g m mm f n us xs):xs.Pairwise (fun x y=>x.name≠y.name):=h.mem.apart
theorem Jad.pos(h:Jad w B g m mm f n us xs):∀a∈xs,0<=a.left:=h.law.pos
theorem Jad.bel(h:Jad w B g m mm f n us xs)(hb:Below w.heap.size w w'):Jad w' B g m mm f n us xs:=⟨h.mem.bel hb,h.law⟩
theorem Jad.few(h:Jad w B g m mm f n us xs):0<=sumL xs/\sumL xs<=n - us.length/\n<=4096/\(us.length:Int)<=n:=by
 have:=Jud h.pos;have:=h.law.room;have:=h.pool.rng;have:=h.pool.size_le;omega
theorem Jad.left_bd(h:Jad w B g m mm f n us xs){a:Acc}(ha:a∈xs):0<=a.left/\a.left<=4096:=by
 have:=h.few;have:=Jhe h.pos ha;have:=h.pos a ha;omega
theorem Jad.sub(h:Jad w B g m mm f n us xs){a:Acc}(ha:a∈xs):∀z∈a.held,z∈us:=fun z hz=>(h.law.held z).2 ⟨a,ha,hz⟩
end
def Jl1 (o:Option Acc):Value:= .pointer (o.map fun a=>⟨a.ab,0,none⟩)
theorem J33(w:World):(zeroValue 227).run Tryz.prog w= .ok (.pointer none) w:=by kernel_rfl
theorem Jju{w:World}{mm k:Nat}{xs:List Acc}(h:w.ownsMap Tryz.prog 9 Jb1 mm k (accD xs))(s:ByteArray)(hs:s.size<=maxLen):
  (Instr.lookup 337 (.map (some mm)) s false).run Tryz.prog w= .ok (Jl1 (Jba xs s.data.toList)) w:=by
 obtain⟨v,ps,z,y⟩:=h.lookup Jiz Tryz.underlying337 (J33 w) Jsf (WideMaps.keyOf_string_mk Tryz.underlying9 hs);rw[z];rw[Jsg] at y;unfold Jl1;rcases Jhf y with⟨rfl,e⟩ | ⟨b,rfl,e⟩
 · cases hf:Jba xs s.data.toList with
   | none=>rfl
   | some a=>rw[hf] at e;exact absurd (Prod.mk.inj e).1 (fun h=>nomatch h)
 · cases hf:Jba xs s.data.toList with
   | none=>rw[hf] at e;exact absurd (Prod.mk.inj e).1 (fun h=>nomatch h)
   | some a=>
     rw[hf] at e;have e1:=DataW.lit.inj (Prod.mk.inj e).1;have e2:=(Lit.int.inj e1).2;have:a.ab=b:=(by omega);subst this;rfl
theorem Jh4{B g m mm:Nat}{f n:Int}{us:List Int}{xs:List Acc}(w:World)(h:Jad w B g m mm f n us xs):
  Cs 232 #[g] w fun e w'=>e= .returned false/\w=w':=by
 have c3:=h.c3;have z:=fun W=>run_eql_map_nil (P:=Tryz.prog) W _ _ _ (some mm) Tryz.underlying337;go_enter Tryz.func232,Tryz.ntmps232;go_wp2;go_ret;exact⟨rfl,rfl⟩
theorem Jeu(s:ByteArray)(w:World)(hs:s.size<=maxLen):
  Cs 341 #[s] w (RS w (decide (1<=s.size/\s.size<=15))):=by
 unfold maxLen at hs;by_cases y:1<=s.size
 · by_cases x:s.size<=15
   · have z:=zI (qaj (show 1<=s.size/\s.size<=15 from⟨y,x⟩))
     have v:decide ((s.size:Int)<=15)=true:=by simp;omega
     go_enter Tryz.func341,Tryz.ntmps341;go_wp2;go_ret;exact⟨Jal z.out.symm,rfl⟩
   · have z:=zI (qae (show ¬ (1<=s.size/\s.size<=15) from fun h=>x h.2))
     have v:decide ((s.size:Int)<=15)=false:=by simp;omega
     go_enter Tryz.func341,Tryz.ntmps341;go_wp2;go_ret;exact⟨Jal z.out.symm,rfl⟩
 · have z:=zI (qae (show ¬ (1<=s.size/\s.size<=15) from fun h=>y h.1))
   have v:decide (1<=(s.size:Int))=false:=by simp;omega
   go_enter Tryz.func341,Tryz.ntmps341;go_wp2;go_ret;exact⟨Jal z.out.symm,rfl⟩
theorem Jcl{B g m mm:Nat}{f n:Int}{us:List Int}{xs:List Acc}(s:ByteArray)(w:World)(h:Jad w B g m mm f n us xs)(hs:s.size<=maxLen):
  Cs 146 #[g,s] w (RS w (Jl1 (Jba xs s.data.toList))):=by
 have c3:=h.c3;have z:=Jju h.own s hs;go_enter Tryz.func146,Tryz.ntmps146;go_wp2_with (go_at_call 232;refine(Jh4 _ h).mono ?_;rintro e w1 ⟨rfl,rfl⟩)
 go_ret;exact⟨rfl,rfl⟩
def Jmj (n:Int) (us:List Int) (xs:List Acc):Int:=n - us.length - sumL xs
theorem J34(a b:List UInt8):(Lit.string a).sameKey (.string b)=decide (a=b):=by rw[qcg];simp[Lit.sameKey]
theorem Jyy{xs:List Acc}(hp:xs.Pairwise (fun x y=>x.name≠y.name)){a:Acc}(ha:a∈xs)(left:Lit ->Bool)(hl:left (.string a.name)=true):
  sumL (xs.filter fun x=> !(left (.string x.name) && !(Lit.string x.name).sameKey (.string a.name)))=sumL (xs.filter fun x=> !left (.string x.name))+a.left:=by
 rw[<- Jk1 a hp ha (fun x=> !left (.string x.name)) (by simp[hl])]
 congr 1
 apply qb9;intro x _;rw[J34];cases left (.string x.name)<;>simp
def Jyz (o:Option Nat):Value:= .pointer (o.map fun b=>⟨b,0,none⟩)
theorem J7k(key:Value)(kl:Lit)(h:keyOf Tryz.prog 9 key=some kl):∃x:ByteArray,key=Value.string x:=by
 obtain⟨s,e,_⟩:=WideMaps.string_of_keyOf Tryz.underlying9 h;exact⟨s,e⟩
theorem J7l(v:Value)(y:DataW Unit×List MemPlace)(h:Jb1 v=some y):∃c,v=Jyz c:=by
 rcases Jhf h with⟨rfl,_⟩ | ⟨b,rfl,_⟩
 · exact⟨none,rfl⟩
 · exact⟨some b,rfl⟩
theorem J35{xs:List Acc}{x:ByteArray}{kl:Lit}{c:Option Nat}{y:DataW Unit×List MemPlace}(hkey:keyOf Tryz.prog 9 (.string x)=some kl)(hv:Jb1 (Jyz c)=some y)(hat:∀zd,(accD xs).atKey kl zd=y.1):
  ∃a∈xs,kl= .string a.name/\c=some a.ab:=by
 obtain⟨s,e,rfl,_⟩:=WideMaps.string_of_keyOf Tryz.underlying9 hkey;cases hf:Jba xs s.data.toList with
 | none=>
   have z:=hat .nil;have w:=hat (.lit (.bool true));rw[Jsg,hf] at z w;rw[<- z] at w;exact absurd w (fun h=>nomatch h)
 | some a=>
   have z:=hat .nil;rw[Jsg,hf] at z;obtain⟨v,u⟩:=Jbt hf;refine⟨a,v,by rw[u],?_⟩;rcases Jhf hv with⟨_,e2⟩ | ⟨b,e1,e2⟩
   · rw[e2] at z;exact absurd z (fun h=>nomatch h)
   · rw[e2] at z
     have e3:=(Lit.int.inj (DataW.lit.inj z)).2;have e4:a.ab=b:=(by omega);unfold Jyz at e1;cases c with
     | none=>cases e1
     | some d=>
       have e5:=Value.pointer.inj e1;simp at e5;rw[e4,e5]
theorem Jp0(xs:List Acc):sumL (xs.filter fun x=> !Maps.has (accD xs) (.string x.name))=0:=by
 have e:(xs.filter fun x=> !Maps.has (accD xs) (.string x.name))=[]:=by
  rw[qds];intro a z;rw[J3y]
  simp
  exact⟨a,z,rfl⟩
 rw[e];rfl
theorem Jwb{xs:List Acc}{left:Lit ->Bool}(h:∀kl,left kl=false):sumL (xs.filter fun x=> !left (.string x.name))=sumL xs:=by
 congr 1
 rw[qbx];intro a _;simp[h]
theorem Jn8{B g m mm:Nat}{f n:Int}{us:List Int}{xs:List Acc}(w:World)(h:Jad w B g m mm f n us xs):
  Cs 290 #[g] w (RB w (Jmj n us xs:Int)):=by
 have J:=zI h.apart;obtain⟨b1,b2,b3,b4⟩:=h.few;go_enter Tryz.func290,Tryz.ntmps290
 go_wp2_with (first
  | (go_at_call 232;refine(Jh4 _ h).mono ?_;rintro e w1 ⟨rfl,rfl⟩)
  | (go_at_call 340;refine(Jnu g m f n us w h.pool).mono ?_;rintro e w1 ⟨rfl,y⟩
     have W:=h.bel y;have c3:=W.c3;have u:=W.own)
  | (at_range;refine wpList_range_own _ rfl _ 337 rfl 9 227 Jiz Tryz.underlying337 Jb1 mm _ (accD xs) rfl u ?_;intro w2 z o l))
 go_frame
 have t:Below w.heap.size w w2:=y.grown o y.size (fun j hj=>by cases hj);obtain⟨r,Y⟩:=exE w1.heap.size;rw[<- Y] at z;rw[<- Y];have V:w.heap.size<=r:=by rw[Y];exact y.size
 clear Y u W c3 o l;go_loopw [3] (fun v wr=>∃left cnt,wr.ranges Tryz.prog 9 Jb1 mm r xs.length (accD xs) left cnt/\v= .int .i64 (n - us.length - sumL (xs.filter fun x=> !left (.string x.name)))/\Below w.heap.size w wr) (fun _ wr=>wr.rangeLeft mm r)
 case atStart=>exact⟨_,_,z,by rw[Jp0];simp,t⟩
 case round=>
  clear z t;obtain⟨left,cnt,k,rfl,p⟩:=hrel;have U:=Jg3 h.pos (fun x=> !left (.string x.name));obtain⟨I,l⟩:=U;go_wp2_with (at_next;refine wpList_next_ranges _ rfl _ rfl 9 Jiz Jb1 Value.string Jyz J7k J7l mm r _ _ _ _ rfl k ?_ ?_)
  · intro H T
    have G:=zI (Jwb (xs:=xs) T);go_wp2;go_ret;exact⟨Jby (by rw[G.out];rfl),p⟩
  · intro x c kl d ps w3 cnt3 i b N hat s F S M Z
    obtain⟨a,R,rfl,rfl⟩:=J35 i N hat;have E:=zI (Jyy J.out R left b);have q:=p.grown S p.size (fun j hj=>by cases hj;exact V);obtain⟨d0,d1,d2⟩:=((h.bel q).acc a R).cells;have P:=h.left_bd R;obtain⟨L,K⟩:=P;have D:=zI (show wr.rangeLeft mm r=cnt from k.left_eq);have O:=zI (show w3.rangeLeft mm r=cnt3 from s.left_eq);clear b N hat;unfold Jyz at Z ⊢;simp only[Option.map_some] at Z ⊢;go_wp2;go_roundw
    case rel=>exact⟨_,_,s,by rw[E.out];go_num,q⟩
    case measure=>rw[D.out,O.out];omega
def LedF (m mm:Nat) (xs:List Acc) (b:Nat):Prop:=b=m\/b=mm\/∃a∈xs,b=a.ab\/b=a.hb
theorem LedF.pool(m mm:Nat)(xs:List Acc):LedF m mm xs m:= .inl rfl
theorem LedF.map(m mm:Nat)(xs:List Acc):LedF m mm xs mm:= .inr (.inl rfl)
theorem LedF.acc{m mm:Nat}{xs:List Acc}{a:Acc}(h:a∈xs):LedF m mm xs a.ab:= .inr (.inr ⟨a,h,.inl rfl⟩)
theorem LedF.held{m mm:Nat}{xs:List Acc}{a:Acc}(h:a∈xs):LedF m mm xs a.hb:= .inr (.inr ⟨a,h,.inr rfl⟩)
def Ja0 (N:Nat) (xs ys:List Acc):Prop:=∀y∈ys,(∃x∈xs,y.ab=x.ab/\y.hb=x.hb)\/(N<=y.ab/\N<=y.hb)
section
variable {N M m mm b:Nat} {xs ys zs:List Acc}
theorem Ja0.refl(N:Nat)(xs:List Acc):Ja0 N xs xs:=fun y hy=> .inl ⟨y,hy,rfl,rfl⟩
theorem Ja0.low(h:Ja0 N xs ys)(hN:M<=N):Ja0 M xs ys:=fun y hy=>(h y hy).imp id fun ⟨a,b⟩=>⟨qax hN a,qax hN b⟩
theorem Ja0.set(h:Ja0 N xs ys)(nm:List UInt8)(F:Acc ->Acc)(hF:∀a,(F a).ab=a.ab/\(F a).hb=a.hb):Ja0 N xs (setA ys nm F):=by
 intro y z;obtain⟨x,w,rfl⟩:=Je6.1 z;have:=h x w;split
 · rw[(hF x).1,(hF x).2];exact this
 · exact this
theorem Ja0.toL(h:Ja0 N xs ys)(nm:List UInt8)(v:Int):Ja0 N xs (setA ys nm (Jes v)):=h.set nm (Jes v) (fun _=>⟨rfl,rfl⟩)
theorem Ja0.toH(h:Ja0 N xs ys)(nm:List UInt8)(S:List Int):Ja0 N xs (setA ys nm (Jet S)):=h.set nm (Jet S) (fun _=>⟨rfl,rfl⟩)
theorem Ja0.ins(xs:List Acc){x:Acc}(h1:N<=x.ab)(h2:N<=x.hb):Ja0 N xs (insA x xs):=by
 intro y z;rcases Jbh.1 z with rfl | z
 · exact .inr ⟨h1,h2⟩
 · exact .inl ⟨y,z,rfl,rfl⟩
theorem Ja0.sub(h:Ja0 N xs ys)(hs:∀z∈zs,z∈ys):Ja0 N xs zs:=fun z hz=>h z (hs z hz)
theorem Ja0.trans(h:Ja0 N xs ys)(k:Ja0 M ys zs)(hN:N<=M):Ja0 N xs zs:=by
 intro z x;rcases k z x with⟨y,w,e1,e2⟩ | ⟨a,b⟩
 · rw[e1,e2];exact h y w
 · exact .inr ⟨qax hN a,qax hN b⟩
theorem Ja0.inF(h:Ja0 N xs ys)(hb:LedF m mm ys b):LedF m mm xs b\/N<=b:=by
 rcases hb with rfl | rfl | ⟨a,y,e⟩
 · exact .inl (.inl rfl)
 · exact .inl (.inr (.inl rfl))
 · rcases h a y with⟨x,z,e1,e2⟩ | ⟨w,v⟩
   · rcases e with rfl | rfl
     · rw[e1];exact .inl (.inr (.inr ⟨x,z,.inl rfl⟩))
     · rw[e2];exact .inl (.inr (.inr ⟨x,z,.inr rfl⟩))
   · rcases e with rfl | rfl
     · exact .inr w
     · exact .inr v
end
section
variable {F:Nat ->Prop} {w w1 w':World}
theorem Jdk(h:Chg F w w1){row:Option Nat}(k:w1.grownBy w' row)(hF:∀b,row=some b ->F b\/w.heap.size<=b):Chg F w w':=
 h.trans (Chg.of_grown (F:=fun b=>row=some b) k (fun _ e=>e)) hF
theorem Jy0(h:Chg F w w1){b i:Nat}(v:Value)(hF:F b\/w.heap.size<=b):Chg F w (w1.setCell ⟨b,i,none⟩ v):=
 h.trans (Chg.set (F:=fun x=>x=b) w1 ⟨b,i,none⟩ v rfl) (fun x e=>by rw[e];exact hF)
end
abbrev AV:=List UInt8×Int×List Int
def vw (a:Acc):AV:=(a.name,a.left,a.held)
def view (xs:List Acc):List AV:=xs.map vw
def insV (x:AV):List AV ->List AV
 | []=>[x]
 | y::r=>if bytesBefore x.1 y.1 then x::y::r else y::insV x r
def Jn9 (vs:List AV) (nm:List UInt8):List AV:=if vs.any (fun v=>v.1==nm) then vs else insV (nm,0,[]) vs
def setV (vs:List AV) (nm:List UInt8) (F:AV ->AV):List AV:=vs.map fun v=>if v.1=nm then F v else v
def addV (k:Int) (v:AV):AV:=(v.1,v.2.1+k,v.2.2)
def Jh5 (vs:List AV) (nm:List UInt8) (k:Int):List AV:=setV (Jn9 vs nm) nm (addV k)
theorem Jue(x:Acc):∀xs:List Acc,view (insA x xs)=insV (vw x) (view xs)
 | []=>rfl
 | y::r=>by
   have ih:=Jue x r;unfold insA;unfold view at*;simp only[qbz,insV];by_cases z:bytesBefore x.name y.name=true
   · rw[qa0 z,qa0 (show bytesBefore (vw x).1 (vw y).1=true from z)];rfl
   · rw[qay z,qay (show ¬ bytesBefore (vw x).1 (vw y).1=true from z),<- ih];rfl
theorem Jgk{xs:List Acc}{nm:List UInt8}{f:Acc ->Acc}{F:AV ->AV}(h:∀a∈xs,a.name=nm ->vw (f a)=F (vw a)):view (setA xs nm f)=setV (view xs) nm F:=by
 unfold view setA setV;rw[qcl,qcl];apply qcv;intro a z;simp only[Function.comp];by_cases e:a.name=nm
 · rw[qa0 e,qa0 (show(vw a).1=nm from e),h a z e]
 · rw[qay e,qay (show ¬ (vw a).1=nm from e)]
theorem Juf(xs:List Acc)(nm:List UInt8):(view xs).any (fun v=>v.1==nm)=(Jba xs nm).isSome:=by
 unfold view Jba;rw[List.any_map,qcg,List.find?_isSome];simp[vw]
theorem Ja6.setLeft{n:Int}{us:List Int}{xs:List Acc}(h:Ja6 n us xs)(hp:xs.Pairwise (fun x y=>x.name≠y.name)){a:Acc}(ha:a∈xs){v:Int}(hv:0<=v)(hr:sumL xs - a.left+v+us.length<=n):
  Ja6 n us (setA xs a.name (Jes v)):=by
 have key:∀y∈setA xs a.name (Jes v),∃x∈xs,y.name=x.name/\y.held=x.held/\0<=y.left:=by
  intro y u;obtain⟨x,w,rfl⟩:=Je6.1 u;by_cases e:x.name=a.name
  · rw[qa0 e];exact⟨x,w,rfl,rfl,hv⟩
  · rw[qay e];exact⟨x,w,rfl,rfl,h.pos x w⟩
 refine⟨fun y u=> ?_,fun y u=> ?_,?_,fun z=> ?_,fun y u y' hy' z t hz'=> ?_⟩
 · obtain⟨x,w,e,_⟩:=key y u;rw[e];exact h.name x w
 · obtain⟨x,w,_,_,e⟩:=key y u;exact e
 · rw[Jjt hp ha rfl];exact hr
 · rw[h.held z]
   constructor
   · rintro⟨x,w,t⟩
     refine⟨if x.name=a.name then Jes v x else x,Je6.2 ⟨x,w,rfl⟩,?_⟩;split<;>exact t
   · rintro⟨y,u,t⟩
     obtain⟨x,w,_,e,_⟩:=key y u;exact⟨x,w,by rw[<- e];exact t⟩
 · obtain⟨x,w,e1,e2,_⟩:=key y u
   obtain⟨x',s,e1',e2',_⟩:=key y' hy';rw[e1,e1'];exact h.once x w x' s z (by rw[<- e2];exact t) (by rw[<- e2'];exact hz')
theorem Ja6.made{n:Int}{us:List Int}{xs:List Acc}(h:Ja6 n us xs){x:Acc}(hl:x.left=0)(hh:x.held=[])(hn:1<=x.name.length/\x.name.length<=15):Ja6 n us (insA x xs):=by
 refine⟨fun y w=> ?_,fun y w=> ?_,?_,fun z=> ?_,fun y w y' u z v hz'=> ?_⟩
 · rcases Jbh.1 w with rfl | w
   · exact hn
   · exact h.name y w
 · rcases Jbh.1 w with rfl | w
   · omega
   · exact h.pos y w
 · rw[Juc,hl];have:=h.room;omega
 · rw[h.held z]
   constructor
   · rintro⟨y,w,v⟩;exact⟨y,Jbh.2 (.inr w),v⟩
   · rintro⟨y,w,v⟩
     rcases Jbh.1 w with rfl | w
     · rw[hh] at v;simp at v
     · exact⟨y,w,v⟩
 · rcases Jbh.1 w with rfl | w
   · rw[hh] at v;simp at v
   · rcases Jbh.1 u with rfl | u
     · rw[hh] at hz';simp at hz'
     · exact h.once y w y' u z v hz'
theorem J36(s:ByteArray):s.data.toList.length=s.size:=by simp
theorem Jai.find{w:World}{B g m mm:Nat}{f n:Int}{us:List Int}{xs:List Acc}(h:Jai w B g m mm f n us xs){x:Acc}(hx:x∈xs):Jba xs x.name=some x:=by
 cases hf:Jba xs x.name with
 | none=>exact absurd rfl (Jiy hf x hx)
 | some y=>
   obtain⟨z,e⟩:=Jbt hf;rw[h.one z hx e]
def J37 (B g m mm:Nat) (f n:Int) (us:List Int) (xs:List Acc) (s:ByteArray) (w:World) (e:Ending) (w':World):Prop:=
 ∃ys x,e= .returned x.ab/\x∈ys/\x.name=s.data.toList/\Jai w' B g m mm f n us ys/\(∀vs,Ja6 n vs xs ->Ja6 n vs ys)/\view ys=Jn9 (view xs) s.data.toList/\ys.length<=xs.length+1/\w.grownBy w' (some mm)/\Ja0 w.heap.size xs ys
theorem Jug{B g m mm:Nat}{f n:Int}{us:List Int}{xs:List Acc}(s:ByteArray)(w:World)(h:Jai w B g m mm f n us xs)(hs:1<=s.size/\s.size<=15)(hB:B<=w.heap.size)(hfew:xs.length<1000000):
  Cs 342 #[g,s] w (J37 B g m mm f n us xs s w):=by
 have c3:=h.c3;have v:s.size<=maxLen:=by unfold maxLen;omega
 cases hf:Jba xs s.data.toList with
 | some a=>
   have o:(Instr.lookup 337 (.map (some mm)) s false).run Tryz.prog w= .ok a.ab w:=by rw[Jju h.own s v,hf];rfl
   have t:=zI hf;clear hf;go_enter Tryz.func342,Tryz.ntmps342;go_wp2;go_ret;obtain⟨i,e⟩:=Jbt t.out;refine⟨xs,a,rfl,i,e,h,fun _ h=>h,?_,by omega,qcc _ _,Ja0.refl _ _⟩;unfold Jn9;rw[Juf,t.out];rfl
 | none =>
   have o:(Instr.lookup 337 (.map (some mm)) s false).run Tryz.prog w= .ok (.pointer none) w:=by rw[Jju h.own s v,hf];rfl
   have d:=@run_makeMap Tryz.prog;have t:=zI hf;clear hf;obtain⟨x,p⟩:∃x:Acc,x=⟨s.data.toList,0,[],w.heap.size+1,w.heap.size⟩:=⟨_,rfl⟩;have u:=zI p;have r:=zI (show s.data.toList=x.name from by rw[p]);have l:=zI (show w.heap.size+1=x.ab from by rw[p]);clear p;have q:=WideMaps.keyOf_string_mk (P:=Tryz.prog) Tryz.underlying9 v;have c:=h.pool.lt;go_enter Tryz.func342,Tryz.ntmps342
   go_wp2_with (first
    | (at_mapUpdate;refine wpList_mapUpdate_own _ rfl _ _ _ 337 rfl 9 227 Jiz Tryz.underlying337 Jb1 mm _ (accD xs) rfl ((h.own.alloc (.map #[] 0)).alloc (.cells #[(0:Int),.map (some w.heap.size)] 236)) (by unfold maxLen;omega) _ _ _ rfl rfl q _ [] (Jwa (w.heap.size+1)) ?_;intro w1 z y
       rw[r.out,l.out,J30 xs x (by rw[<- r.out];exact Jiy t.out)] at z;have k:=h.made hB (x:=x) (by rw[u.out];exact⟨rfl,rfl,rfl,rfl⟩) z y;have d3:=k.c3
       have j:(Instr.lookup 337 (.map (some mm)) s false).run Tryz.prog w1= .ok (.pointer (some ⟨w.heap.size+1,0,none⟩)) w1:=by
        rw[Jju z s v,r.out,k.find (Jbh.2 (.inl rfl)),l.out];rfl))
   go_ret;refine⟨insA x xs,x,by rw[<- l.out];rfl,Jbh.2 (.inl rfl),r.out.symm,k,fun vs hv=>hv.made (by rw[u.out]) (by rw[u.out]) (by rw[<- r.out,J36];exact hs),?_,by rw[Jub];exact qab _,?_,Ja0.ins _ (by rw[u.out];exact Nat.le_succ _) (by rw[u.out];exact qab _)⟩
   · unfold Jn9
     rw[Juf,t.out,Jue,u.out];rfl
   · exact Jas (Jab (((qaa _ _).alloc (qab _) _).alloc (by simp) _) _) y
def Jg4 (n:Int) (us:List Int) (xs:List Acc) (s:ByteArray) (k:Int):Int:=if k<0\/ ¬ (1<=s.size/\s.size<=15) then 1 else if Jmj n us xs<k then 20 else 0
def Jd1 (B g m mm:Nat) (f n:Int) (us:List Int) (xs:List Acc) (s:ByteArray) (k:Int) (w:World) (e:Ending) (w':World):Prop:=
 ∃ys,e= .returned (Jg4 n us xs s k:Int)/\Jad w' B g m mm f n us ys/\view ys=(if Jg4 n us xs s k=0 then Jh5 (view xs) s.data.toList k else view xs)/\ys.length<=xs.length+1/\Chg (LedF m mm xs) w w'/\Ja0 w.heap.size xs ys
theorem Jdl(xs:List Acc)(nm:List UInt8)(F:Acc ->Acc):(setA xs nm F).length=xs.length:=by unfold setA;simp
theorem sumV(xs:List Acc):sumL xs=((view xs).map fun v=>v.2.1).sum:=by
 unfold sumL view;rw[qcl];rfl
theorem Juh(x:AV):∀vs:List AV,((insV x vs).map fun v=>v.2.1).sum=x.2.1+(vs.map fun v=>v.2.1).sum
 | []=>by simp[insV]
 | y::r=>by
   have:=Juh x r;unfold insV;split<;>(simp only[qbz,qda];try omega)
theorem Jp1(vs:List AV)(nm:List UInt8):((Jn9 vs nm).map fun v=>v.2.1).sum=(vs.map fun v=>v.2.1).sum:=by
 unfold Jn9;split
 · rfl
 · rw[Juh];simp
theorem Jsh{B g m mm:Nat}{f n:Int}{us:List Int}{xs:List Acc}(s:ByteArray)(k:Int)(w:World)(h:Jad w B g m mm f n us xs)(hs:s.size<=maxLen)(hk: -9223372036854775808<=k/\k<=9223372036854775807)(hB:B<=w.heap.size)(hfew:xs.length<1000000):
  Cs 291 #[g,s,(k:Int)] w (Jd1 B g m mm f n us xs s k w):=by
 obtain⟨S,R⟩:=hk;by_cases d:k<0
 · have u:=zI (show Jg4 n us xs s k=1 from qa0 (.inl d))
   go_enter Tryz.func291,Tryz.ntmps291;go_wp2;go_ret;unfold Jd1;rw[u.out];exact⟨xs,rfl,h,rfl,by omega,Chg.refl _ _,Ja0.refl _ _⟩
 by_cases y:1<=s.size/\s.size<=15
 rotate_left
 · have u:=zI (show Jg4 n us xs s k=1 from qa0 (.inr y))
   have i:=zI (qae y);clear y;go_enter Tryz.func291,Tryz.ntmps291;go_wp2_with (go_at_call 341;refine(Jeu s _ hs).mono ?_;rw[i.out];rintro e w1 ⟨rfl,rfl⟩)
   go_ret;unfold Jd1;rw[u.out];exact⟨xs,rfl,h,rfl,by omega,Chg.refl _ _,Ja0.refl _ _⟩
 have i:=zI (qaj y);have c:=zI y;clear y;obtain⟨b1,b2,b3,b4⟩:=h.few;obtain⟨o,r⟩:=exE (Jmj n us xs);have q:=zI r;have b:0<=o/\o<=4096:=by rw[r];unfold Jmj;omega
 obtain⟨P,O⟩:=b;clear r;by_cases U:o<k
 · have u:=zI (show Jg4 n us xs s k=20 from by unfold Jg4;rw[qay (fun hh=>hh.elim d (fun hh=>hh c.out)),qa0 (by rw[<- q.out];exact U)])
   go_enter Tryz.func291,Tryz.ntmps291
   go_wp2_with (first
    | (go_at_call 341;refine(Jeu s _ hs).mono ?_;rw[i.out];rintro e w1 ⟨rfl,rfl⟩)
    | (go_at_call 232;refine(Jh4 _ h).mono ?_;rintro e w1 ⟨rfl,rfl⟩)
    | (go_at_call 290;refine(Jn8 _ h).mono ?_;rw[<- q.out];rintro e w1 ⟨rfl,z⟩))
   go_ret;unfold Jd1;rw[u.out];exact⟨xs,rfl,h.bel z,rfl,by omega,Chg.of_below z,Ja0.refl _ _⟩
 · have u:=zI (show Jg4 n us xs s k=0 from by unfold Jg4;rw[qay (fun hh=>hh.elim d (fun hh=>hh c.out)),qay (by rw[<- q.out];exact U)])
   go_enter Tryz.func291,Tryz.ntmps291
   go_wp2_with (first
    | (go_at_call 341;refine(Jeu s _ hs).mono ?_;rw[i.out];rintro e w1 ⟨rfl,rfl⟩)
    | (go_at_call 232;refine(Jh4 _ h).mono ?_;rintro e w1 ⟨rfl,rfl⟩)
    | (go_at_call 290;refine(Jn8 _ h).mono ?_;rw[<- q.out];rintro e w1 ⟨rfl,z⟩
       have Z:B<=w1.heap.size:=qax hB z.size)
    | (go_at_call 342;refine(Jug s _ (h.bel z).mem c.out Z hfew).mono ?_;rintro e w2 ⟨ys,x,rfl,t,T,Y,W,p,N,V,v⟩
       have y:Jad w2 B g m mm f n us ys:=⟨Y,W _ h.law⟩;have M:=zI T;have L:=zI p;clear T p;obtain⟨d0,d1,d2⟩:=(y.acc x t).cells;obtain⟨q1,q2⟩:=y.left_bd t))
   go_ret;unfold Jd1;rw[u.out];have p:=L.out;have l:sumL ys=sumL xs:=by rw[sumV,sumV,p,Jp1]
   have r:=q.out;unfold Jmj at r;refine⟨setA ys x.name (Jes (x.left+k)),rfl,⟨y.mem.left t _,y.law.setLeft y.apart t (by omega) (by rw[l];omega)⟩,?_,by rw[Jdl];exact N,?_,(v.low z.size).set _ _ (fun _=>⟨rfl,rfl⟩)⟩
   · rw[qa0 rfl]
     unfold Jh5;rw[<- p,<- M.out];exact Jgk (fun a ha e=>by rw[y.mem.one ha t e];rfl)
   · exact Jy0 (Jdk (Chg.of_below z) V (fun j hj=>by cases hj;exact .inl (LedF.map _ _ _))) _ ((v.low z.size).inF (LedF.acc t))
theorem length_insAll:∀ {zs us:List Int},zs.Nodup ->(∀z∈zs,z∉us) ->(insAll us zs).length=us.length+zs.length
 | [],us,_,_=>rfl
 | z::r,us,hn,hd=>by
   rw[List.nodup_cons] at hn;show(insAll (ins z us) r).length=_
   rw[length_insAll (zs:=r) hn.2 (fun x hx y=>by
    rcases Jg7.1 y with rfl | y
    · exact hn.1 hx
    · exact hd x (by simp[hx]) y),Jl7 (hd z (by simp))]
   simp;omega
theorem Jk4:∀ {zs us:List Int} {c:Int},zs.Nodup ->(∀z∈zs,z∈us) ->zs.foldl Jed (us,c)=(us.filter (fun x=>decide (x∉zs)),c+zs.length)
 | [],us,c,_,_=>by simp;exact(qbx.2 (by simp)).symm
 | z ::r,us,c,hn,hm=>by
   rw[List.nodup_cons] at hn;rw[List.foldl_cons];have e:Jed (us,c) z=(us.filter (fun x=>decide (x≠z)),c+1):=qa0 (hm z (by simp))
   rw[e,Jk4 hn.2 (fun x hx=>by
    rw[qbf];refine⟨hm x (by simp[hx]),?_⟩
    simp;rintro rfl;exact hn.1 hx)]
   refine Prod.ext ?_ ?_
   · simp only[List.filter_filter]
     apply qb9;intro x _
     simp;exact Bool.and_comm _ _
   · simp;omega
end Go.Proofs.YtglmhddbhhcjdaaGreatDoor.Led
namespace Go.Proofs.YtglmhddbhhcjdaaGreatDoor.Py
open Go.ChangeShapes Go.WideShapes Go.ChangeAt Go.RowKit Go.Deep
def tiE (x y:Ti):Bool:=decide (x.nm=y.nm) && (decide (x.ev=y.ev) && (decide (x.kp=y.kp) && decide (x.sh=y.sh)))
theorem J7m{x y:Ti}:tiE x y=true↔x=y:=by
 obtain⟨a,b,c,d⟩:=x;obtain⟨e,f,g,h⟩:=y;simp[tiE]
def Jd2:List Ti ->List Ti ->Bool
 | [],[]=>true
 | x::r,y::q=>tiE x y && Jd2 r q
 | _,_=>false
theorem Jgl:∀ {a b:List Ti},Jd2 a b=true↔a=b
 | [],[]=>by simp[Jd2]
 | [],y::q=>by simp[Jd2]
 | x::r,[]=>by simp[Jd2]
 | x::r,y::q=>by simp[Jd2,J7m,Jgl (a:=r) (b:=q)]
theorem Jp2{a b:List Ti}(h:a≠b):Jd2 a b=false:=by
 cases hh:Jd2 a b
 · rfl
 · exact absurd (Jgl.1 hh) h
theorem Jwc(A B:Option Addr)(n m c d:Nat)(a b:List Ti)(w:World)(hA:Tis w A n a)(hB:Tis w B m b):Cs 338 #[.slice A n c,.slice B m d] w fun e w'=>e= .returned (Jd2 a b)/\∃q,w'=w.drewN q:=by
 have P:=hA.n_le;unfold maxLen at P;have l:=zI hA.len;have k:=zI hB.len;by_cases s:n=m
 · subst s
   go_enter Tryz.func338,Tryz.ntmps338;go_wp2;obtain⟨w6,h⟩:=exE w;subst h;go_loopw [5,13] (fun _ i wr=>∃j:Nat,j<=n/\i= .int .i64 j/\Below w6.heap.size w6 wr/\Hid (∃q,wr=w6.drewN q)/\Hid (∀i,i<j ->a[i]? =b[i]?)) (fun _ i _=>n - (intOf i).toNat)
   case atStart=>exact⟨0,qaq _,rfl,qaa _ _,zI ⟨0,rfl⟩,zI (fun i p=>absurd p (by omega))⟩
   case round =>
    obtain⟨j,I,rfl,u,o,g⟩:=hrel;by_cases r:j<n
    · have K :j<a.length:=by rw[l.out];exact r
      have K2:j<b.length:=by rw[k.out];exact r
      obtain⟨g1,o1,rfl,H,X⟩:=(hA.below u).get K;obtain⟨r0,r1,r2,r3⟩:=X;obtain⟨g2,o2,rfl,O,Y⟩:=(hB.below u).get K2;obtain⟨s0,s1,s2,s3⟩:=Y;have T:=zI (show a[j]? =some (a[j]'K) from qah K);have S:=zI (show b[j]? =some (b[j]'K2) from qah K2);generalize a[j]'K=x at*;generalize b[j]'K2=y at*;have g0:(0:Int)<=(j:Int):=(by omega);have g1:(j:Int)<(n:Int):=(by omega);by_cases z:x=y
      · have N:=zI (show ∀i,i<j+1 ->a[i]? =b[i]? from fun i p=>by
         by_cases e:i=j
         · rw[e,T.out,S.out,z]
         · exact g.out i (by omega))
        subst z;go_wp2;go_quiet (fail)
        go_wp2;go_roundw
        case rel=>exact⟨j+1,by omega,by go_num,below_drewN u _,zI (by obtain⟨q,f⟩:=o.out;exact⟨q+nq,by rw[f,World.drewN_drewN]⟩),N⟩
        case measure=>simp[intOf];omega
      · have t:=zI (show Jd2 a b=false from Jp2 (fun e=>z (by have:=T.out;rw[e,S.out] at this;injection this with this;exact this.symm)))
        have fin:∀v,v=Value.bool false ->∀W q,W=wr.drewN q ->Ending.returned v= .returned (Jd2 a b)/\∃q,W=w6.drewN q:=by
         rintro v rfl W q rfl;exact⟨Jal t.out.symm,by obtain⟨q',f⟩:=o.out;exact⟨q'+q,by rw[f,World.drewN_drewN]⟩⟩
        have FIN:=zI fin;clear fin t g o hA hB;obtain⟨x0,x1,x2,x3⟩:=x;obtain⟨y0,y1,y2,y3⟩:=y;simp only at r0 r1 r2 r3 s0 s1 s2 s3;by_cases Z:x0=y0
        · subst Z
          by_cases V:x1=y1
          · subst V
            by_cases U:x2=y2
            · subst U
              have G:(x3==y3)=false:=qat.2 (fun e=>z (by rw[e]));clear z;go_wp2;go_quiet (fail)
              go_wp2;go_ret;exact FIN.out _ rfl _ _ rfl
            · have M:(x2==y2)=false:=qat.2 U
              clear z U;go_wp2;go_quiet (fail)
              go_wp2;go_ret;exact FIN.out _ rfl _ _ rfl
          · have L:(x1==y1)=false:=qat.2 V
            clear z V;go_wp2;go_quiet (fail)
            go_wp2;go_ret;exact FIN.out _ rfl _ _ rfl
        · have J:(x0.toList==y0.toList)=false:=qat.2 (fun e=>Z (by
           rw[qaw,qaw] at e;exact ByteArray.ext (Array.ext' e)))
          clear z Z;go_wp2;go_quiet (fail)
          go_wp2;go_ret;exact FIN.out _ rfl _ _ rfl
    · have F:decide ((j:Int)<(n:Int))=false:=qae (by omega)
      have t:=zI (show Jd2 a b=true from Jgl.2 (qdc fun i=>by
       by_cases p:i<j
       · exact g.out i p
       · rw[qbj (by rw[l.out];omega),qbj (by rw[k.out];omega)]))
      go_wp2;go_ret;exact⟨Jal t.out.symm,o.out⟩
 · have t:=zI (show Jd2 a b=false from Jp2 (fun e=>s (by rw[<- l.out,<- k.out,e])))
   have R: ¬ (n:Int)=(m:Int):=by omega
   go_enter Tryz.func338,Tryz.ntmps338;go_wp2;go_ret;exact⟨Jal t.out.symm,0,rfl⟩
def sameP (x y:ByteArray) (a b:List Ti):Bool:=decide (x=y) && Jd2 a b
theorem sameP_iff{x y:ByteArray}{a b:List Ti}:sameP x y a b=true↔x=y/\a=b:=by unfold sameP;rw[qb1,qbc,Jgl]
theorem J7n{x y:ByteArray}(h:x.toList=y.toList):x=y:=by
 rw[qaw,qaw] at h;exact ByteArray.ext (Array.ext' h)
theorem same_any(x y:ByteArray)(A B:Option Addr)(n m c d:Nat)(a b:List Ti)(w:World)(hA:Tis w A n a)(hB:Tis w B m b):Cs 284 #[polV x A n c,polV y B m d] w (RB w (sameP x y a b)):=by
 have z:Below w.heap.size w ((w.alloc (.cells #[x,.slice A n c] 101)).alloc (.cells #[y,.slice B m d] 101)):=((qaa _ _).alloc (qab _) _).alloc (by simp) _;have u:=zI (fun q=>Jwc A B n m c d a b _ ((hA.below z).below (below_drewN (qaa _ _) q)) ((hB.below z).below (below_drewN (qaa _ _) q)));clear hA hB;by_cases h:x=y
 · subst h
   have v:=zI (show sameP x x a b=Jd2 a b from by unfold sameP;rw[qaj rfl];rfl);go_enter Tryz.func284,Tryz.ntmps284;go_wp2_with (go_at_call 338;refine(u.out 0).mono ?_;rintro e w1 ⟨rfl,q,rfl⟩)
   go_ret;exact⟨Jal v.out.symm,below_drewN z _⟩
 · have v:=zI (show sameP x y a b=false from by unfold sameP;rw[qae h];rfl)
   have t:(x.toList==y.toList)=false:=qat.2 (fun e=>h (J7n e));clear h;go_enter Tryz.func284,Tryz.ntmps284;go_wp2_with fail
   go_ret;exact⟨Jal v.out.symm,z⟩
end Go.Proofs.YtglmhddbhhcjdaaGreatDoor.Py
namespace Go.Proofs.YtglmhddbhhcjdaaGreatDoor.Py
open Go.RowKit
theorem Jit{z:Int}(h:(Lit.int .i64 z).wf=true): -9223372036854775808<=z/\z<=9223372036854775807:=by
 have:IntKind.i64.min= -9223372036854775808/\IntKind.i64.max=9223372036854775807:=by decide
 simpa[Lit.wf,this.1,this.2] using h
end Go.Proofs.YtglmhddbhhcjdaaGreatDoor.Py
namespace Go.Proofs.YtglmhddbhhcjdaaGreatDoor
open Go.RowKit Go.Maps
structure RepS (D:DataW Unit) (f:Int ->Option ByteArray):Prop where
 map:IsMap D
 at_:∀k z,D.atKey (.int .i64 k) z=match f k with | some s=> .lit (.string s.data.toList) | none=>z
theorem RepS.nil:RepS (.map []) (fun _=>none):=⟨isMap_empty,fun _ _=>rfl⟩
def setS (f:Int ->Option ByteArray) (k:Int) (s:ByteArray):Int ->Option ByteArray:=fun i=>if i=k then some s else f i
theorem RepS.put{D:DataW Unit}{f:Int ->Option ByteArray}(h:RepS D f)(k:Int)(s:ByteArray):RepS (D.put (.int .i64 k) (.lit (.string s.data.toList))) (setS f k s):=by
 refine⟨h.map.put _ _,fun i z=> ?_⟩;unfold setS;by_cases e:i=k
 · subst e
   rw[qa0 rfl,atKey_put_same h.map (by simp[WideAt.IsKeyLit])]
 · rw[qay e,atKey_put_other (by intro h;cases h;exact e rfl)]
   exact h.at_ i z
structure SMap (w:World) (b n:Nat) (f:Int ->Option ByteArray):Prop where
 own:∃D:DataW Unit,w.ownsMap Tryz.prog 3 (plainElem Tryz.prog 9) b n D/\RepS D f
section
variable {w w':World} {b n:Nat} {f:Int ->Option ByteArray}
theorem SMap.lt(h:SMap w b n f):b<w.heap.size:=by obtain⟨D,z,_⟩:=h.own;exact z.lt
theorem SMap.grown{row:Option Nat}(h:SMap w b n f)(hg:w.grownBy w' row)(hne:some b≠row):SMap w' b n f:=by
 obtain⟨D,z,y⟩:=h.own;exact⟨D,z.kept hg hne,y⟩
theorem SMap.keep(h:SMap w b n f)(hb:w'.heap[b]? =w.heap[b]?):SMap w' b n f:=by
 obtain⟨D,⟨es,c,z,y⟩,x⟩:=h.own;exact⟨D,⟨es,c,hb.trans z,y⟩,x⟩
theorem SMap.below(h:SMap w b n f)(hb:Below w.heap.size w w'):SMap w' b n f:=h.keep (hb.block b h.lt)
theorem SMap.nocells(h:SMap w b n f)(cs:Array Value)(T:TypeId)(fr:Nat×Nat):w.heap[b]? ≠some (.cells cs T fr):=by
 obtain⟨D,⟨es,c,z,_⟩,_⟩:=h.own;rw[z];intro e;cases e
theorem SMap.made(w:World):SMap (w.alloc (.map #[] 0)) w.heap.size 0 (fun _=>none):=⟨_,World.ownsMap_made w _ _ _,RepS.nil⟩
theorem J38(w:World):(zeroValue 9).run Tryz.prog w= .ok ByteArray.empty w:=by kernel_rfl
def Jsi (f:Int ->Option ByteArray) (k:Int):Value:=match f k with
 | some s=> .tuple #[s,true]
 | none=> .tuple #[ByteArray.empty,false]
theorem J7o{s t:ByteArray}(h:s.data.toList=t.data.toList):s=t:=by
 cases s;cases t
 simp at h;rw[h]
theorem SMap.look(h:SMap w b n f){k:Int}(hk:(Lit.int .i64 k).wf=true):(Instr.lookup 94 (.map (some b)) (k:Int) true).run Tryz.prog w= .ok (Jsi f k) w:=by
 obtain⟨D,⟨es,c,r,F,o,rfl⟩,q⟩:=h.own;have x:=q.at_ k;rcases Maps.fit_look true (int_keyed Tryz.underlying3) Tryz.underlying94 (J38 w) r F (keyOf_int_mk Tryz.underlying3 hk) with⟨z,_,hat⟩ | ⟨e0,y,_,_,z,u,hat,_⟩
 · rw[z]
   have v:=(hat (.lit (.bool true))).symm.trans (x _);unfold Jsi;cases e:f k with
   | none=>rfl
   | some s=>rw[e] at v;cases v
 · rw[z]
   obtain⟨s,e1,rfl,_⟩:=plainElem_string_inv Tryz.underlying9 u;have v:=(hat (.lit (.bool true))).symm.trans (x _);unfold Jsi;cases e:f k with
   | none=>rw[e] at v;cases v
   | some t=>
     rw[e] at v;have p:s.data.toList=t.data.toList:=(by simpa using v);rw[e1,J7o p];rfl
end
end Go.Proofs.YtglmhddbhhcjdaaGreatDoor
namespace Go.Proofs
open Go.Shelf
def Tryz.lays105_ren:Go.Shelf.Ren:=⟨fun | 105=>79 | 212=>149 | 99=>150 | 165=>151 | 166=>152 | 170=>153 | 169=>154 | 263=>236 | 264=>237 | 206=>238 | 240=>239 | 241=>240 | 276=>302 | 277=>303 | n=>n,fun | 9=>9 | 3=>3 | 4=>4 | 20=>20 | 0=>0 | 46=>237 | 109=>238 | 5=>5 | 72=>243 | 76=>247 | 51=>341 | 146=>342 | 53=>55 | 148=>344 | 70=>241 | 37=>74 | 75=>246 | 127=>346 | 164=>409 | 80=>223 | n=>n,fun | n=>n⟩
theorem Tryz.lays105:Go.Proofs.Lays.n105 Tryz.prog Tryz.lays105_ren:={
 mixed:=by kernel_rfl
 f99:=Tryz.func150.trans (congrArg some (by kernel_rfl))
 f105:=Tryz.func79.trans (congrArg some (by kernel_rfl))
 f165:=Tryz.func151.trans (congrArg some (by kernel_rfl))
 f166:=Tryz.func152.trans (congrArg some (by kernel_rfl))
 f169:=Tryz.func154.trans (congrArg some (by kernel_rfl))
 f170:=Tryz.func153.trans (congrArg some (by kernel_rfl))
 f206:=Tryz.func238.trans (congrArg some (by kernel_rfl))
 f212:=Tryz.func149.trans (congrArg some (by kernel_rfl))
 f240:=Tryz.func239.trans (congrArg some (by kernel_rfl))
 f241:=Tryz.func240.trans (congrArg some (by kernel_rfl))
 f263:=Tryz.func236.trans (congrArg some (by kernel_rfl))
 f264:=Tryz.func237.trans (congrArg some (by kernel_rfl))
 f276:=Tryz.func302.trans (congrArg some (by kernel_rfl))
 f277:=Tryz.func303.trans (congrArg some (by kernel_rfl))
 t0:=Tryz.underlying0
 a0:=Tryz.isAgg0
 z0:=Tryz.sizeOf0
 v0:=Tryz.zeroValue0
 t3:=Tryz.underlying3
 a3:=Tryz.isAgg3
 z3:=Tryz.sizeOf3
 v3:=Tryz.zeroValue3
 t4:=Tryz.underlying4
 a4:=Tryz.isAgg4
 z4:=Tryz.sizeOf4
 v4:=Tryz.zeroValue4
 t5:=Tryz.underlying5
 a5:=Tryz.isAgg5
 z5:=Tryz.sizeOf5
 v5:=Tryz.zeroValue5
 t9:=Tryz.underlying9
 a9:=Tryz.isAgg9
 z9:=Tryz.sizeOf9
 v9:=Tryz.zeroValue9
 t20:=Tryz.underlying20
 a20:=Tryz.isAgg20
 z20:=Tryz.sizeOf20
 v20:=Tryz.zeroValue20
 t37:=Tryz.underlying74
 a37:=Tryz.isAgg74
 z37:=Tryz.sizeOf74
 v37:=Tryz.zeroValue74
 t46:=Tryz.underlying237
 a46:=Tryz.isAgg237
 z46:=Tryz.sizeOf237
 v46:=Tryz.zeroValue237
 t51:=Tryz.underlying341
 a51:=Tryz.isAgg341
 z51:=Tryz.sizeOf341
 v51:=Tryz.zeroValue341
 t53:=Tryz.underlying55
 a53:=Tryz.isAgg55
 z53:=Tryz.sizeOf55
 v53:=Tryz.zeroValue55
 t70:=Tryz.underlying241
 a70:=Tryz.isAgg241
 z70:=Tryz.sizeOf241
 v70:=Tryz.zeroValue241
 t72:=Tryz.underlying243
 a72:=Tryz.isAgg243
 z72:=Tryz.sizeOf243
 v72:=Tryz.zeroValue243
 t75:=Tryz.underlying246
 a75:=Tryz.isAgg246
 z75:=Tryz.sizeOf246
 v75:=Tryz.zeroValue246
 t76:=Tryz.underlying247
 a76:=Tryz.isAgg247
 z76:=Tryz.sizeOf247
 v76:=Tryz.zeroValue247
 t109:=Tryz.underlying238
 a109:=Tryz.isAgg238
 z109:=Tryz.sizeOf238
 v109:=Tryz.zeroValue238
 t127:=Tryz.underlying346
 a127:=Tryz.isAgg346
 z127:=Tryz.sizeOf346
 v127:=Tryz.zeroValue346
 t146:=Tryz.underlying342
 a146:=Tryz.isAgg342
 z146:=Tryz.sizeOf342
 v146:=Tryz.zeroValue342
 t148:=Tryz.underlying344
 a148:=Tryz.isAgg344
 z148:=Tryz.sizeOf344
 v148:=Tryz.zeroValue344
 t164:=Tryz.underlying409
 a164:=Tryz.isAgg409
 z164:=Tryz.sizeOf409
 v164:=Tryz.zeroValue409}
theorem Tryz.Builder_Extra_105:Builder.Extra Tryz.prog Tryz.lays105_ren:={
 sizeBuilder:=by kernel_rfl
 liesBuilder:=by kernel_rfl
 t5:=Tryz.underlying5
 a5:=Tryz.isAgg5
 z5:=Tryz.sizeOf5
 v5:=Tryz.zeroValue5
 infoByte:=by kernel_rfl
 cellsByte:=by kernel_rfl
 sizeByte:=by kernel_rfl
 neB5:=by decide}
open Go.RowKit Go.Lib in
theorem Tryz.strings_Repeat(s:ByteArray)(c:Nat)(w:World)(hc:c<=9223372036854775807)(hlen:s.size*c<=140737488355328):
  Calls Tryz.prog 79 #[.string s,.int .i64 c] w fun e w'=>e= .returned (.string ⟨(Lib.repeatL s.data.toList c).toArray⟩)/\Below w.heap.size w w':=Any.strings_Repeat Tryz.lays105 Tryz.Builder_Extra_105 s c w hc hlen
end Go.Proofs
namespace Go.Proofs.YtglmhddbhhcjdaaGreatDoor
open Go.RowKit
theorem J39(a b:ByteArray)(x y:Int)(r s t u v r' s' t' u' v':Value)(w:World):
  Cs 336 #[.agg #[a,(x:Int),r,s,t,u,v],.agg #[b,(y:Int),r',s',t',u',v']] w (RB w (Jdu a.toList x b.toList y)):=by
 go_enter Tryz.func336,Tryz.ntmps336;go_wp2_with (go_at_call 242;refine(Jr0 _ _ _ _ _ _ _ _ _ _ _ _ _ _ _).mono ?_;rintro e w1 ⟨rfl,z⟩)
 go_ret;exact⟨rfl,(((qaa _ _).alloc (by omega) _).alloc (by simp) _).trans (z.mono (by simp;omega))⟩
