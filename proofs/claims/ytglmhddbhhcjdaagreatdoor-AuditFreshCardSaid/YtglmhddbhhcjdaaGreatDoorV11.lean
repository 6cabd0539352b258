/-
  Several texts in one: WordCutP, WordTakeP.
-/
import Derived.Laws.AppendOwnNone
import Derived.Laws.ResultCell
import Derived.Test.YtglmhddbhhcjdaaGreatDoorV10
import Derived.Test.YtglmhddbhhcjdaaGreatDoorV6
set_option maxRecDepth 100000
set_option linter.unusedSimpArgs false
set_option maxHeartbeats 4000000
namespace Go.Proofs.YtglmhddbhhcjdaaGreatDoor.Py
open Go.RowKit
structure Jbc (w:World) (g:Nat) (at_:Nat) (ws:List Wd):Prop where
 lt:g<w.heap.size
 few:ws.length<=16004000
 le:at_<=ws.length
 c0:w.cell? ⟨g,0,none⟩=some (.int .i64 at_)
 f0:w.frozen? ⟨g,0,none⟩=false
 c1:∃A c,w.cell? ⟨g,1,none⟩=some (.slice A ws.length c)/\w.frozen? ⟨g,1,none⟩=false/\Sl w A (wrow ws)/\ws.length<=c/\(∀b off,A=some ⟨b,off,none⟩ ->b≠g)
theorem Jbc.f1'{w:World}{g a:Nat}{ws:List Wd}(h:Jbc w g a ws):w.frozen? ⟨g,1,none⟩=false:=by obtain⟨_,_,_,z,_⟩:=h.c1;exact z
theorem Jbc.below{w w':World}{g a:Nat}{ws:List Wd}(h:Jbc w g a ws)(hb:Below w.heap.size w w'):Jbc w' g a ws:=by
 obtain⟨A,c,z,y,x,v,u⟩:=h.c1
 exact⟨qar h.lt hb.size,h.few,h.le,(hb.cell (p:=⟨g,0,none⟩) h.lt).trans h.c0,(hb.frozen (p:=⟨g,0,none⟩) h.lt).trans h.f0,
  A,c,(hb.cell (p:=⟨g,1,none⟩) h.lt).trans z,(hb.frozen (p:=⟨g,1,none⟩) h.lt).trans y,x.below hb,v,u⟩
def J6g (s:ByteArray) (w:World) (e:Ending) (w':World):Prop:=
 Below w.heap.size w w'/\
 ((4000<s.size/\e= .returned (.tuple #[.pointer none,(2:Int),(0:Int)]))\/
  (s.size<=4000/\cutE 1 (Jb5 s)≠0/\e= .returned (.tuple #[.pointer none,(22:Int),(cutE 1 (Jb5 s):Int)]))\/
  (s.size<=4000/\cutE 1 (Jb5 s)=0/\∃g,w.heap.size<=g/\e= .returned (.tuple #[(g:Nat),(0:Int),(0:Int)])/\Jbc w' g 0 (cutW 1 (Jb5 s))))
theorem Jas{a b c:World}{row:Option Nat}(h:a.grownBy b row)(k:b.grownBy c row):a.grownBy c row:=
 ⟨k.os.trans h.os,k.tape.trans h.tape,k.output.trans h.output,qat h.size k.size,fun i hi hne=>(k.block i (qar hi h.size) hne).trans (h.block i hi hne)⟩
theorem Jaa{a b:World}(h:Below a.heap.size a b)(row:Option Nat):a.grownBy b row:=⟨h.os,h.tape,h.output,h.size,fun i hi _=>h.block i hi⟩
structure Jph (w2:World) (g:Nat) (ws:List Wd) (v:Value) (wr:World):Prop where
 gr:w2.grownBy wr (some g)
 c0:wr.cell? ⟨g,0,none⟩=some (.int .i64 0)
 f0:wr.frozen? ⟨g,0,none⟩=false
 c1:wr.cell? ⟨g,1,none⟩=some v
 f1:wr.frozen? ⟨g,1,none⟩=false
 own:wr.ownsRow w2.heap.size 266 3 v ws.length (wrow ws)
theorem Jph.below{w2:World}{g:Nat}{ws:List Wd}{v:Value}{wr w':World}(h:Jph w2 g ws v wr)(hg:g<w2.heap.size)(hb:Below wr.heap.size wr w'):Jph w2 g ws v w':=by
 have z:g<wr.heap.size:=qar hg h.gr.size
 exact⟨Jas h.gr (Jaa hb _),(hb.cell (p:=⟨g,0,none⟩) z).trans h.c0,(hb.frozen (p:=⟨g,0,none⟩) z).trans h.f0,
  (hb.cell (p:=⟨g,1,none⟩) z).trans h.c1,(hb.frozen (p:=⟨g,1,none⟩) z).trans h.f1,own_below h.own hb⟩
theorem Jph.put{w2:World}{g:Nat}{ws ws':List Wd}{v v':Value}{wr w3:World}(h:Jph w2 g ws v wr)(hg:g<w2.heap.size)(hgr:wr.grownBy w3 v.ownBlock)(hown:w3.ownsRow w2.heap.size 266 3 v' ws'.length (wrow ws')):Jph w2 g ws' v' (w3.setCell ⟨g,1,none⟩ v'):=by
 have y:g<wr.heap.size:=qar hg h.gr.size;have x:some g≠Value.ownBlock _:=fun e=>by have:=(h.own.lt g e.symm).1;omega
 have z:=hgr.block g y x;have e1:w3.cell? ⟨g,1,none⟩=some v:=(qbi (a:=⟨g,1,none⟩) z).trans h.c1;refine⟨⟨hgr.os.trans h.gr.os,hgr.tape.trans h.gr.tape,hgr.output.trans h.gr.output,by have:=h.gr.size;have:=hgr.size;simp;omega,fun k hk hkn=> ?_⟩,?_,?_,?_,?_,?_⟩
 · rw[qdh _ _ _ _ (fun e=>hkn (by rw[e])),hgr.block k (qar hk h.gr.size) (fun e=>by have:=(h.own.lt k e.symm).1;omega)]
   exact h.gr.block k hk hkn
 · rw[qbl _ _ _ _ (by simp)];exact(qbi (a:=⟨g,0,none⟩) z).trans h.c0
 · rw[qbs];exact(qcm (a:=⟨g,0,none⟩) z).trans h.f0
 · exact qdl _ _ _ e1
 · rw[qbs];exact(qcm (a:=⟨g,1,none⟩) z).trans h.f1
 · exact qc2 hown (fun e=>by have:=(hown.lt g e).1;omega) v'
theorem J2s(l:List Wd):∀u∈wrow l,u.oneCell'=true:=by
 intro u y;obtain⟨x,_,z⟩:=qcq.1 y;simp[Jhm] at z;rcases z with rfl | rfl | rfl<;>rfl
theorem Jtf{L:List (List UInt8)}{k:Nat}{x:List UInt8}(h:L.take (k+1)=L.take k++[x])(ha:∀l∈L.take k,l.all okB=true)(hx:x.all okB=true):∀l∈L.take (k+1),l.all okB=true:=by
 rw[h];intro l z;rcases qbc.1 z with z | z
 · exact ha l z
 · simp only[qaz] at z;subst z;exact hx
theorem Jcs(s:ByteArray)(w:World)(hs:s.size<=281474976710656):Cs 82 #[s] w fun e w'=>e= .returned s/\Below w.heap.size w w':=by
 go_enter Tryz.func82,Tryz.ntmps82
 go_wp2_with (first
   | (go_at_call 156;refine(Tryz.stringslite_Clone s _ (by omega)).mono ?_;rintro e w1 ⟨rfl,z⟩))
 go_ret;exact⟨rfl,z⟩
theorem J6h(s:ByteArray)(w:World)(hs:s.size<=maxLen)(hm:∃m:Int,w.cell? ⟨0,0,none⟩=some (.int .i64 m)):
  Cs 163 #[s] w (J6g s w):=by
 unfold maxLen at hs;by_cases h4:4000<s.size
 · go_enter Tryz.func163,Tryz.ntmps163
   go_wp2_with fail
   go_ret3
   exact⟨qaa _ _,.inl ⟨h4,rfl⟩⟩
 · obtain ⟨i0,hi,Hg,Hh,Hi⟩:=qbx Jj9
   obtain⟨mx,N⟩:=hm;have G:0<w.heap.size:=by have:=block_lt_of_cell N;simpa using this
   go_enter Tryz.func163,Tryz.ntmps163;have F:(w.alloc (.cells #[(0:Int),.slice none 0 0] 364)).cell? ⟨0,0,none⟩=some (.int .i64 mx):=(qbz _ 0 0 G).trans N
   go_wp2_with (first
    | (go_at_call 82;refine(Jcs s _ (by omega)).mono ?_;rintro e w1 ⟨rfl,t⟩)
    | (go_at_call 250;refine(Tryz.strings_Split s ⟨#[10]⟩ mx w1 (by omega) (by first | exact(t.cell (p:=⟨0,0,none⟩) (by simp)).trans F) (by decide)).mono ?_;rintro e w2 ⟨rfl,z⟩;replace z:=zI z))
   obtain⟨LS,o⟩:=exE (Jkb s);have E:(Lib.countB s ⟨#[10]⟩+1:Nat)=LS.length:=by rw[o,Jpg]
   have Hj:∀l∈LS,l.size<=4000:=fun l hl=>by rw[o] at hl;have:=Jlu s l hl;omega
   have D:LS.length<=4001:=by have:=Jxv s;rw[o];omega
   replace z:=z.out
   rw[show Lib.splitB ⟨#[10]⟩ 0 (Lib.countB s ⟨#[10]⟩) s=LS from o.symm] at z;have C:=zI o;clear o;obtain⟨lb,V⟩:=exE w1.heap.size;obtain⟨g,n⟩:=exE w.heap.size;have Hs:g<lb:=by have:=t.size;simp at this;omega
   have Hk:w2.heap.size=lb+1:=by rw[z];simp[V]
   have B:Below g w w2:=by rw[z,n];exact(((qaa _ w).alloc (qab _) _).trans (t.mono (by simp))).alloc (by omega) _
   have I0:Jph w2 g [] (.slice none 0 0) w2:=by
    have f:g<w2.heap.size:=(by omega);refine⟨⟨rfl,rfl,rfl,qab _,fun _ _ _=>rfl⟩,?_,?_,?_,?_,qax _ _ _ _⟩
    · rw[z,qbz _ _ _ (by omega),t.cell (by simp[n]),qck _ _ _ _ n];rfl
    · rw[z,World.frozen?_alloc_past _ _ _ (by omega),t.frozen (by simp[n]),qcn _ _ _ _ n]
    · rw[z,qbz _ _ _ (by omega),t.cell (by simp[n]),qck _ _ _ _ n];rfl
    · rw[z,World.frozen?_alloc_past _ _ _ (by omega),t.frozen (by simp[n]),qcn _ _ _ _ n]
   have U:∀j (h:j<LS.length),w2.cell? ⟨lb,j,none⟩=some (.string LS[j]):=fun j h=>by
    rw[z,qck _ _ _ _ V];simp[h]
   rw[<- V,<- n];have T:g<w2.heap.size:=by omega
   have d:Below w.heap.size w w2:=by rw[<- n];exact B
   have A:w.heap.size<=g:=by omega
   clear t z Hk F N;rw[E,show((Lib.countB s ⟨#[10]⟩:Nat):Int)+1=(LS.length:Int) from by omega];clear E V n;have Hr:=zI D;go_loopw [19] (fun i wr=>∃ (k:Nat) (v:Value),k<=LS.length/\i= .int .i64 k/\Jph w2 g (cutW 1 ((LS.map ByteArray.toList).take k)) v wr/\(∀l∈(LS.map ByteArray.toList).take k,l.all okB=true)/\(cutW 1 ((LS.map ByteArray.toList).take k)).length<=k*4000) (fun i _=>LS.length - (intOf i).toNat)
   case atStart=>exact⟨0,_,qaq _,rfl,I0,by simp,by simp[cutW]⟩
   case round=>
    obtain⟨k,v,hk,rfl,y,O,c⟩:=hrel;have HA:=zI O;clear O;by_cases f:k<LS.length
    · have Z :=(y.gr.cell (U k f) (by simp;omega))
      have hJ:=Hj _ (qal f);obtain⟨ln,M⟩:=exE (LS[k]);rw[<- M] at Z hJ;have Ha:=zI M;clear M;obtain⟨A1,c1,rfl,_,_⟩:=own_slice y.own;have y0:=y.c0;have y1:=y.c1;have y3:=y.f1
      have L:(LS.map ByteArray.toList).take (k+1)=(LS.map ByteArray.toList).take k++[ln.toList]:=by
       rw[qak (by simpa using f),Ha.out];simp
      have K:((LS.map ByteArray.toList).take k).length=k:=by simp;omega
      have hW:cutW 1 ((LS.map ByteArray.toList).take (k+1))=cutW 1 ((LS.map ByteArray.toList).take k)++Jag (k+1) ln.toList:=by
       rw[L,Jka,K];simp[cutW,Int.add_comm]
      have Hl:=Jng (k+1) ln.toList;rw[Jac] at Hl;have HW:=zI hW;have Hb:=zI L;have Hm:=zI K;clear hW L K;obtain⟨ws,J⟩:=exE (cutW 1 ((LS.map ByteArray.toList).take k));have Ht:=zI J;rw[<- J] at y c HW;clear J
      go_wp2_with (first
       | (go_at_call 251;refine(J2q ln (k+1) _ (by omega) (by omega)).mono ?_;rintro e w3 (⟨Y,v2,rfl,W,S⟩ | ⟨Y,rfl,S⟩)
          rotate_left
          · have R:=zI Y
            clear Y;go_wp2_with fail
            go_ret3
            have hE:cutE 1 (Jb5 s)=(k:Int)+1:=by
             rw[Int.add_comm];have h1:=Jxu _ ln.toList ((LS.map ByteArray.toList).drop (k+1)) 1 HA.out R.out;rw[Hm.out] at h1;rw[<- h1]
             congr 1
             show(Jkb s).map ByteArray.toList=_;rw[<- C.out,Ha.out]
             conv=>lhs;rw[<- qbe k (LS.map ByteArray.toList)]
             congr 1
             rw[qbp (by simpa using f)];simp
            refine⟨?_,.inr (.inl ⟨by omega,by rw[hE];omega,by first | (rw[hE];done) | (rw[hE];rfl)⟩)⟩
            exact((d.grown y.gr (by omega) (fun j hj=>by injection hj with hj;omega)).trans (S.mono (by have:=y.gr.size;omega)))
          have R:=zI Y;have r:=y.below T S;have z1:=r.c1;have z3:=r.f1;have Hc:=qat y.gr.size S.size;clear Y y y0 y1 y3 Z;rcases W.2 with⟨rfl,hz⟩ | ⟨g2,cap2,cur2,rfl,_,_,_,_,_,_⟩)
       | (at_builtin;refine wpList_append_own_none rfl _ _ 362 rfl w2.heap.size 266 i0 3 Tryz.underlying362 hi _ _ _ rfl r.own rfl ?_)
       | (at_builtin;refine qdk _ rfl _ _ 362 rfl w2.heap.size 266 i0 (.agg #[ByteArray.empty,(0:Int),(0:Int)]) 3 32 Tryz.underlying362 hi Hg Hh Hi rfl (by decide) _ _ _ rfl r.own ⟨g2,0,none⟩ _ _ (wrow (Jag (k+1) ln.toList)) rfl (Jez _) (W.cells (g:=g2) rfl) ?c2 ?c3 ?c4 ?c5 ?_
          case c2=>exact J2s _
          case c3=>unfold maxLen;omega
          case c4=>omega
          case c5=>exact Hc
          intro v' w4 x u _;have Hd:some g≠Value.ownBlock _:=fun e=>by have:=(r.own.lt g e.symm).1;omega
          have I:=u.block g (by omega) Hd;have z5:w4.cell? ⟨g,1,none⟩=_:=(qbi (a:=⟨g,1,none⟩) I).trans z1;have z6:w4.frozen? ⟨g,1,none⟩=false:=(qcm (a:=⟨g,1,none⟩) I).trans z3;have e0:(ws++Jag (k+1) ln.toList).length=ws.length+(Jag (k+1) ln.toList).length:=qad;rw[<- Jcr,<- e0] at x;have Hn:=r.put T u x;obtain⟨A4,c4,rfl,_,_⟩:=own_slice x;clear x u I Hd z1 z3))
      · have He:Jag (k+1) ln.toList=[]:=qa1 hz
        go_roundw
        case rel=>exact⟨k+1,_,by omega,by go_num,by rw[HW.out,He,qbk];exact r.put T ⟨rfl,rfl,rfl,qab _,fun _ _ _=>rfl⟩ r.own,Jtf Hb.out HA.out R.out,by rw[HW.out,qad];omega⟩
        case measure=>simp[intOf];omega
      · go_roundw
        case rel=>exact⟨k+1,_,by omega,by go_num,by rw[HW.out,<- e0];exact Hn,Jtf Hb.out HA.out R.out,by rw[HW.out,qad];omega⟩
        case measure=>simp[intOf];omega
    · have Ho:k=LS.length:=by omega
      have q:(LS.map ByteArray.toList).take k=Jb5 s:=by
       show _=(Jkb s).map ByteArray.toList;rw[<- C.out];exact qao (by simp;omega)
      rw[q] at y c;have H:(cutW 1 (Jb5 s)).length<=16004000:=(by omega);have Hf:=zI (show ∀l∈Jb5 s,l.all okB=true from by have:=HA.out;rwa [q] at this);have hd:decide ((k:Int)<(LS.length:Int))=false:=qae (by omega);clear Ho q HA c;go_wp2_with fail
      go_ret3
      have P:=d.grown y.gr (by omega) (fun j hj=>by injection hj with hj;omega);obtain⟨A1,c1,rfl,Hp,Hq⟩:=own_slice y.own;exact⟨P,.inr (.inr ⟨by omega,Jpe _ _ Hf.out,g,A,rfl,qar T y.gr.size,H,qaq _,y.c0,y.f0,A1,c1,y.c1,y.f1,Hq,Hp,fun b off e=>by subst e;have:=(y.own.lt b rfl).1;omega⟩)⟩
theorem Jkc(w:World)(g a:Nat)(ws:List Wd)(h:Jbc w g a ws):
  Cs 164 #[g] w (RB w ((ws.length - a:Nat):Int)):=by
 obtain⟨A,c,x,v,u,t,s⟩:=h.c1;have y0:=h.c0;have y:=h.le;have z:=h.few;have r:IntKind.i64.wrap ((ws.length:Int) - a)=(ws.length:Int) - a:=qbd _ (by omega);go_enter Tryz.func164,Tryz.ntmps164;go_wp2_with fail
 go_quiet (fail)
 go_wp2_with fail
 go_ret;exact⟨Jby (by omega),below_drewN (qaa _ _) _⟩
def wagg (x:Wd):Value:= .agg #[.string ⟨x.text.toArray⟩,(x.line:Int),(x.col:Int)]
def Jjd:Value:= .agg #[ByteArray.empty,(0:Int),(0:Int)]
def Ji8 (a:Nat) (ws:List Wd):Value:=match ws[a]? with
 | some x=> .tuple #[wagg x,true]
 | none=> .tuple #[Jjd,false]
theorem Jhp{w w1:World}{T:TypeId}(hb:Below (w.alloc (.cells #[.string ⟨#[]⟩,(0:Int),(0:Int)] T)).heap.size (w.alloc (.cells #[.string ⟨#[]⟩,(0:Int),(0:Int)] T)) w1):
  w1.cell? ⟨w.heap.size,0,none⟩=some (.string ⟨#[]⟩)/\w1.cell? ⟨w.heap.size,1,none⟩=some (.int .i64 0)/\w1.cell? ⟨w.heap.size,2,none⟩=some (.int .i64 0)/\
  w1.frozen? ⟨w.heap.size,0,none⟩=false/\w1.frozen? ⟨w.heap.size,1,none⟩=false/\w1.frozen? ⟨w.heap.size,2,none⟩=false:=
 ⟨(hb.cell (p:=⟨w.heap.size,0,none⟩) (by simp)).trans (qck _ _ _ _ rfl),(hb.cell (p:=⟨w.heap.size,1,none⟩) (by simp)).trans (qck _ _ _ _ rfl),
  (hb.cell (p:=⟨w.heap.size,2,none⟩) (by simp)).trans (qck _ _ _ _ rfl),(hb.frozen (p:=⟨w.heap.size,0,none⟩) (by simp)).trans (qcn _ _ _ _ rfl),
  (hb.frozen (p:=⟨w.heap.size,1,none⟩) (by simp)).trans (qcn _ _ _ _ rfl),(hb.frozen (p:=⟨w.heap.size,2,none⟩) (by simp)).trans (qcn _ _ _ _ rfl)⟩
theorem Je0(w:World)(g a:Nat)(ws:List Wd)(h:Jbc w g a ws):
  Cs 165 #[g] w (RB w (Ji8 a ws)):=by
 have u:=h.below ((qaa _ _).alloc (qab _) (.cells #[.string ⟨#[]⟩,(0:Int),(0:Int)] 266));have t:=h.few;by_cases s:a<ws.length
 · have x:Ji8 a ws= .tuple #[wagg ws[a],true]:=by unfold Ji8;rw[qam s]
   rw[x];have r:decide ((((ws.length - a:Nat):Int))=0)=false:=qae (by omega);clear x;go_enter Tryz.func165,Tryz.ntmps165
   go_wp2_with (first
    | (go_at_call 164;refine(Jkc _ _ _ _ u).mono ?_;rintro e w1 ⟨rfl,y⟩
       have q:=u.below y;obtain⟨A,c,x1,x2,x3,x4,x5⟩:=q.c1;have y0:=q.c0;obtain⟨b,off,rfl,_,z⟩:=x3.at_ (fun e=>by have:=congrArg List.length e;rw[Jez] at this;simp at this;omega);obtain⟨g1,g2,g3⟩:=Jhn ws a s;have z1:=z _ _ g1;have z2:=z _ _ g2;have z3:=z _ _ g3;rw[<- qcc] at z2 z3;obtain⟨q0,q1,q2,q3,q4,q5⟩:=Jhp y;clear z g1 g2 g3))
   go_still_tail 11,(by kernel_rfl)
   change wpList _ _ _ _ _ w1.drew;go_wp2_with fail
   (try simp only[Exit.inBlock,Exit.then])
   refine qa7 (v:= .tuple #[wagg ws[a],true]) ?_ rfl ⟨rfl,?_⟩
   · rw[results_cell_tmp rfl]
     go_simp
     rfl
   · exact((((((qaa w.heap.size w).alloc (qab _) _).trans (y.mono (by simp))).drew.setCell (by simp) _).setCell (by simp) _).setCell (by simp) _)
 · have x:Ji8 a ws= .tuple #[Jjd,false]:=by unfold Ji8;rw[qbg (by omega)]
   rw[x];have r:ws.length - a=0:=by omega
   go_enter Tryz.func165,Tryz.ntmps165
   go_wp2_with (first
    | (go_at_call 164;refine(Jkc _ _ _ _ u).mono ?_;rw[r];rintro e w1 ⟨rfl,y⟩;obtain⟨q0,q1,q2,q3,q4,q5⟩:=Jhp y))
   (try simp only[Exit.inBlock,Exit.then])
   refine qa7 (v:= .tuple #[Jjd,false]) ?_ rfl ⟨rfl,?_⟩
   · rw[results_cell_tmp rfl]
     go_simp
     rfl
   · exact((((((qaa w.heap.size w).alloc (qab _) _).trans (y.mono (by simp))).setCell (by simp) _).setCell (by simp) _).setCell (by simp) _)
def Jnh (a:Nat) (ws:List Wd):Nat:=if a<ws.length then a+1 else a
theorem Jhq{w w1:World}{g:Nat}(h:w.grownBy w1 (some g)){p:Addr}(hp:w.heap.size<=p.block\/p.block=g)(u:Value):w.grownBy (w1.setCell p u) (some g):=
 ⟨h.os,h.tape,h.output,by have:=h.size;simpa using this,fun k hk hne=>by
  have e:k≠p.block:=fun e=>hp.elim (fun hp=>by omega) (fun hp=>hne (by rw[e,hp]));rw[qdh _ _ _ _ e];exact h.block k hk hne⟩
theorem Jbc.grow{w w':World}{g a a':Nat}{ws:List Wd}(h:Jbc w g a ws)(hg:w.grownBy w' (some g))(c0:w'.cell? ⟨g,0,none⟩=some (.int .i64 a'))(f0:w'.frozen? ⟨g,0,none⟩=false)(c1:w'.cell? ⟨g,1,none⟩=w.cell? ⟨g,1,none⟩)(f1:w'.frozen? ⟨g,1,none⟩=w.frozen? ⟨g,1,none⟩)(le:a'<=ws.length):Jbc w' g a' ws:=by
 obtain⟨A,c,y,x,v,t,z⟩:=h.c1;refine⟨qar h.lt hg.size,h.few,le,c0,f0,A,c,c1.trans y,f1.trans x,⟨fun hne=> ?_⟩,t,z⟩;obtain⟨b,off,e,s,r⟩:=v.at_ hne;exact⟨b,off,e,qar s hg.size,fun j u hu=>hg.cell (r j u hu) (by simp;exact z b off e)⟩
theorem Jtg(w:World)(g a:Nat)(ws:List Wd)(h:Jbc w g a ws):
  Cs 317 #[(g:Nat)] w fun e w'=>e= .returned (Ji8 a ws)/\Jbc w' g (Jnh a ws) ws/\w.grownBy w' (some g)/\w'.cell? ⟨g,1,none⟩=w.cell? ⟨g,1,none⟩:=by
 have l:=h.below ((qaa _ _).alloc (qab _) (.cells #[.string ⟨#[]⟩,(0:Int),(0:Int)] 266));have d:=h.few;have z:=h.lt;by_cases n:a<ws.length
 · have r:Ji8 a ws= .tuple #[.agg #[.string ⟨ws[a].text.toArray⟩,.int .i64 ws[a].line,.int .i64 ws[a].col],.bool true]:=by unfold Ji8;rw[qam n];rfl
   have m:Jnh a ws=a+1:=by unfold Jnh;rw[qa2 n]
   rw[m,r];clear m;go_enter Tryz.func317,Tryz.ntmps317
   go_wp2_with (first
    | (go_at_call 165;refine(Je0 _ _ _ _ l).mono ?_;rw[r];rintro e w1 ⟨rfl,x⟩
       have k:=l.below x;have y0:=k.c0;have y1:=k.f0;obtain⟨q0,q1,q2,q3,q4,q5⟩:=Jhp x;have s:g<w1.heap.size:=k.lt;have f:w.heap.size<w1.heap.size:=by have:=x.size;simp at this;omega
       have b:IntKind.i64.wrap ((a:Int)+1)=(a:Int)+1:=qbd _ (by omega)))
   (try simp only[Exit.inBlock,Exit.then])
   have q:w.grownBy w1 (some g):=Jaa (((qaa w.heap.size w).alloc (qab _) _).trans (x.mono (by simp))) _
   have t:=Jas (Jhq (Jhq (Jhq (Jhq q (p:=⟨g,0,none⟩) (.inr rfl) ((a:Int)+1:Int))
    (p:=⟨w.heap.size,0,none⟩) (.inl (qab _)) (.string ⟨ws[a].text.toArray⟩)) (p:=⟨w.heap.size,1,none⟩) (.inl (qab _)) (.int .i64 ws[a].line)) (p:=⟨w.heap.size,2,none⟩) (.inl (qab _)) (.int .i64 ws[a].col)) (qbj _ (.cells #[.string ⟨ws[a].text.toArray⟩,.int .i64 ws[a].line,.int .i64 ws[a].col] 266) _)
   have y:∀i j,(⟨w.heap.size,i,none⟩:Addr)≠⟨g,j,none⟩:=fun i j e=>by injection e with e;omega
   have F1:∀v0 v1 v2 v3 o,((((((w1.setCell ⟨g,0,none⟩ v0).setCell ⟨w.heap.size,0,none⟩ v1).setCell ⟨w.heap.size,1,none⟩ v2).setCell ⟨w.heap.size,2,none⟩ v3).alloc o).cell? ⟨g,0,none⟩=some v0)/\((((((w1.setCell ⟨g,0,none⟩ v0).setCell ⟨w.heap.size,0,none⟩ v1).setCell ⟨w.heap.size,1,none⟩ v2).setCell ⟨w.heap.size,2,none⟩ v3).alloc o).cell? ⟨g,1,none⟩=w1.cell? ⟨g,1,none⟩)/\
     ∀i,(((((w1.setCell ⟨g,0,none⟩ v0).setCell ⟨w.heap.size,0,none⟩ v1).setCell ⟨w.heap.size,1,none⟩ v2).setCell ⟨w.heap.size,2,none⟩ v3).alloc o).frozen? ⟨g,i,none⟩=w1.frozen? ⟨g,i,none⟩:=fun v0 v1 v2 v3 o=>by
    refine⟨?_,?_,fun i=> ?_⟩
    · rw[qbz _ _ _ (by simpa using s),qbl _ _ _ _ (y _ _),qbl _ _ _ _ (y _ _),qbl _ _ _ _ (y _ _),qdl _ _ _ y0]
    · rw[qbz _ _ _ (by simpa using s),qbl _ _ _ _ (y _ _),qbl _ _ _ _ (y _ _),qbl _ _ _ _ (y _ _),qbl _ _ _ _ (by simp)]
    · rw[World.frozen?_alloc_past _ _ _ (by simpa using s),qbs,qbs,qbs,qbs]
   refine qa7 (v:= .tuple #[.agg #[.string ⟨ws[a].text.toArray⟩,.int .i64 ws[a].line,.int .i64 ws[a].col],.bool true]) ?_ rfl ⟨rfl,?_,t,?_⟩
   · rw[results_cell_tmp rfl]
     go_simp
   · have c:=q.block g z
     have E1:w1.cell? ⟨g,1,none⟩=w.cell? ⟨g,1,none⟩:=by
      rw[x.cell (by simp;omega),qbz _ _ _ z]
     have E2:w1.frozen? ⟨g,1,none⟩=w.frozen? ⟨g,1,none⟩:=by
      rw[x.frozen (by simp;omega),World.frozen?_alloc_past _ _ _ z]
     exact h.grow t (F1 _ _ _ _ _).1 (((F1 _ _ _ _ _).2.2 0).trans y1) ((F1 _ _ _ _ _).2.1.trans E1) (((F1 _ _ _ _ _).2.2 1).trans E2) n
   · exact(F1 _ _ _ _ _).2.1.trans (by rw[x.cell (by simp;omega),qbz _ _ _ z])
 · have r:Ji8 a ws= .tuple #[.agg #[ByteArray.empty,(0:Int),(0:Int)],false]:=by unfold Ji8;rw[qbg (by omega)];rfl
   have m:Jnh a ws=a:=by unfold Jnh;rw[qav n]
   rw[m,r];go_enter Tryz.func317,Tryz.ntmps317
   go_wp2_with (first
    | (go_at_call 165;refine(Je0 _ _ _ _ l).mono ?_;rw[r];rintro e w1 ⟨rfl,x⟩;obtain⟨q0,q1,q2,q3,q4,q5⟩:=Jhp x
       have f:w.heap.size<w1.heap.size:=by have:=x.size;simp at this;omega))
   (try simp only[Exit.inBlock,Exit.then])
   have u:=((((((qaa w.heap.size w).alloc (qab _) _).trans (x.mono (by simp))).setCell (p:=⟨w.heap.size,0,none⟩) (qab _) ByteArray.empty).setCell (p:=⟨w.heap.size,1,none⟩) (qab _) (0:Int)).setCell (p:=⟨w.heap.size,2,none⟩) (qab _) (0:Int)).alloc (by simp;omega) (.cells #[ByteArray.empty,(0:Int),(0:Int)] 266);refine qa7 (v:= .tuple #[.agg #[ByteArray.empty,(0:Int),(0:Int)],false]) ?_ rfl ⟨rfl,h.below u,Jaa u _,u.cell (p:=⟨g,1,none⟩) z⟩;rw[results_cell_tmp rfl];go_simp
end Go.Proofs.YtglmhddbhhcjdaaGreatDoor.Py
