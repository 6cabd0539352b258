/-
  Several texts in one: Dev, Devr, Devw, Devn, Devf, Dk, Sto0.
-/
import Derived.Carry
import Derived.Test.YtglmhddbhhcjdaaGreatDoorV18
import Derived.Test.YtglmhddbhhcjdaaGreatDoorV17
set_option maxRecDepth 100000
set_option linter.unusedSimpArgs false
set_option maxHeartbeats 4000000
namespace Go.Proofs.YtglmhddbhhcjdaaGreatDoor
open Go.RowKit
def Jbv (x:Int×ByteArray):List Value:=[(x.1:Int),x.2]
structure Jbb (w:World) (B g mn ml N n:Nat) (f fl:Int ->Option ByteArray) (ws:List (Int×ByteArray)) (vW:Value):Prop where
 ex:∃wr left,Bx w g 97 #[true,(wr:Int),false,(left:Int),.slice none 0 0,(N:Int),.map (some mn),.map (some ml),vW]
 row:w.ownsRow B 156 2 vW ws.length (ws.flatMap Jbv)
 now:SMap w mn n f
 lasts:SMap w ml n fl
 ne:mn≠ml
 size:1<=N/\N<=4096
def dkF (g mn ml:Nat) (vW:Value) (b:Nat):Prop:=b=g\/b=mn\/b=ml\/vW.ownBlock=some b
section
variable {w w':World} {B g mn ml N n:Nat} {f fl:Int ->Option ByteArray} {ws:List (Int×ByteArray)} {vW:Value}
theorem Jbb.keep(h:Jbb w B g mn ml N n f fl ws vW)(hk:∀b,b<w.heap.size ->dkF g mn ml vW b ->w'.heap[b]? =w.heap[b]?):Jbb w' B g mn ml N n f fl ws vW:=by
 obtain⟨wr,left,y⟩:=h.ex;refine⟨⟨wr,left,⟨(hk g y.lt (.inl rfl)).trans y.blk⟩⟩,⟨h.row.1,?_⟩,h.now.keep (hk mn h.now.lt (.inr (.inl rfl))),h.lasts.keep (hk ml h.lasts.lt (.inr (.inr (.inl rfl)))),h.ne,h.size⟩;rcases h.row.2 with v | ⟨g',cap,cur,rfl,z,x,rest⟩
 · exact .inl v
 · exact .inr ⟨g',cap,cur,rfl,z,(hk g' (qb2 x) (.inr (.inr (.inr rfl)))).trans x,rest⟩
theorem Jbb.below(h:Jbb w B g mn ml N n f fl ws vW)(hb:Below w.heap.size w w'):Jbb w' B g mn ml N n f fl ws vW:=h.keep fun b hlt _=>hb.block b hlt
theorem Jbb.chg{F:Nat ->Prop}(h:Jbb w B g mn ml N n f fl ws vW)(hc:Chg F w w')(hF:∀b,dkF g mn ml vW b -> ¬ F b):Jbb w' B g mn ml N n f fl ws vW:=h.keep fun b hlt hd=>hc.block b hlt (hF b hd)
end
theorem Jsh{B g mn ml N n:Nat}{f fl:Int ->Option ByteArray}{ws:List (Int×ByteArray)}{vW:Value}(w:World)(h:Jbb w B g mn ml N n f fl ws vW):
  Cs 78 #[g] w fun e w'=>e= .returned false/\w=w':=by
 obtain⟨wr,left,z⟩:=h.ex;have e0:=z.at_ 0 (v:= true) rfl;clear h z;go_enter Tryz.func78,Tryz.ntmps78;go_wp2;go_ret;exact⟨rfl,rfl⟩
theorem Jv6{B g mn ml N n:Nat}{f fl:Int ->Option ByteArray}{ws:List (Int×ByteArray)}{vW:Value}(w:World)(h:Jbb w B g mn ml N n f fl ws vW):
  Cs 36 #[g] w (RS w (N:Int)):=by
 obtain⟨wr,left,z⟩:=h.ex;have e0:=z.at_ 5 (v:= (N:Int)) rfl;clear h z;go_enter Tryz.func36,Tryz.ntmps36;go_wp2;go_ret;exact⟨rfl,rfl⟩
theorem Juc{B g mn ml N n:Nat}{f fl:Int ->Option ByteArray}{ws:List (Int×ByteArray)}{vW:Value}(w:World)(h:Jbb w B g mn ml N n f fl ws vW):
  Cs 80 #[g] w fun e w'=>e= .returned false/\Jbb w' B g mn ml N n f fl ws vW/\w.grownBy w' (some g):=by
 obtain⟨wr,left,y⟩:=h.ex;have e1:=y.at_ 1 (v:= (wr:Int)) rfl;have e2:=y.at_ 2 (v:= false) rfl;have f1:=y.free 1;have x:=zI y;have z:=zI h;clear h y;go_enter Tryz.func80,Tryz.ntmps80;go_wp2;go_ret;have u:=Jak w g 1 (wrap64 (wr+1):Int);refine⟨rfl,⟨⟨wrap64 (wr+1),left,x.out.set 1 _⟩,z.out.row.kept u (.inr fun e=>x.out.not_row z.out.row (by decide) e.symm),z.out.now.grown u ?_,z.out.lasts.grown u ?_,z.out.ne,z.out.size⟩,u⟩
 · intro e
   cases e
   exact z.out.now.nocells _ _ _ x.out.blk
 · intro e
   cases e
   exact z.out.lasts.nocells _ _ _ x.out.blk
theorem Jud:∀c:Nat,Lib.repeatL [(0:UInt8)] c=zeros c
 | 0=>rfl
 | c+1=>by
   have h:=Jud c;simp[Lib.repeatL,zeros,List.replicate_succ] at h ⊢;first | exact h | (rw[h])
theorem Jn9(c:Nat)(w:World)(hc:c<=100000):Cs 79 #[.string ⟨#[0]⟩,(c:Int)] w (RB w (strOf (zeros c))):=by
 refine(Tryz.strings_Repeat ⟨#[0]⟩ c w (by omega) (by show 1*c<=_;omega)).mono ?_;rintro e w1 ⟨rfl,z⟩;refine⟨?_,z⟩;show Ending.returned (.string ⟨(Lib.repeatL [0] c).toArray⟩)=_;rw[Jud];rfl
def Jbd (f:Int ->Option ByteArray) (at_:Int):ByteArray:=(f at_).getD (strOf (zeros 256))
theorem J7k{B g mn ml N n:Nat}{f fl:Int ->Option ByteArray}{ws:List (Int×ByteArray)}{vW:Value}(w:World)(h:Jbb w B g mn ml N n f fl ws vW)(k:Nat)(hk:k<N):
  Cs 27 #[g,(k:Int)] w (RB w (.tuple #[(Jbd f k),(0:Int)])):=by
 have p:=zI (Jsh w h);obtain⟨wr,left,x⟩:=h.ex;have e5:=x.at_ 5 (v:= (N:Int)) rfl;have e6:=x.at_ 6 (v:= .map (some mn)) rfl;have m:=h.size.2
 have u:(Lit.int .i64 (k:Int)).wf=true:=by
  have e1:IntKind.i64.min= -9223372036854775808/\IntKind.i64.max=9223372036854775807:=by decide
  simp[Lit.wf,e1.1,e1.2];omega
 have z:=h.now.look u;have o:=zI (Jn9 256 w (by omega));have l:decide ((k:Int)<0)=false:=qae (by omega);have j:decide ((N:Int)<=(k:Int))=false:=qae (by omega);clear h x;cases hf:f k with
 | none=>
   have t:=zI (show Jbd f k=strOf (zeros 256) from by unfold Jbd;rw[hf];rfl);have y:Jr6 f k= .tuple #[ByteArray.empty,false]:=by unfold Jr6;rw[hf]
   rw[y] at z;clear y hf;go_enter Tryz.func27,Tryz.ntmps27;go_wp2_with fail
   refine p.out.mono ?_;rintro e w1 ⟨rfl,r⟩;subst r;go_wp2_with fail
   refine o.out.mono ?_;rintro e w2 ⟨rfl,q⟩;go_wp2_with fail
   go_ret2;exact⟨by rw[t.out];rfl,q⟩
 | some s=>
   have t:=zI (show Jbd f k=s from by unfold Jbd;rw[hf];rfl);have y:Jr6 f k= .tuple #[s,true]:=by unfold Jr6;rw[hf]
   rw[y] at z;clear y hf;go_enter Tryz.func27,Tryz.ntmps27;go_wp2_with fail
   refine p.out.mono ?_;rintro e w1 ⟨rfl,r⟩;subst r;go_wp2_with fail
   go_ret2;exact⟨by rw[t.out];rfl,qaa _ _⟩
open Go.Maps
theorem SMap.store_run{w:World}{b n:Nat}{f:Int ->Option ByteArray}(h:SMap w b n f)(hn:n<maxLen){k:Int}{s:ByteArray}(hk:(Lit.int .i64 k).wf=true)(hs:s.size<=maxLen):
  ∃w',(Instr.mapUpdate 94 (.map (some b)) (k:Int) s).run Tryz.prog w= .ok () w'/\SMap w' b (n+1) (setS f k s)/\w.grownBy w' (some b):=by
 obtain⟨D,y,x⟩:=h.own;obtain⟨w',z,r1,r2⟩:=y.update (int_keyed Tryz.underlying3) Tryz.underlying94 hn (keyOf_int_mk Tryz.underlying3 hk) (plainElem_string Tryz.underlying9 hs);exact⟨w',z,⟨_,r1,x.put k s⟩,r2⟩
theorem J5v:(Tryz.prog.info? 156).map (fun i=>(i.zero,i.size,i.bytes))=some (some (.agg #[(0:Int),ByteArray.empty]),2,24):=by kernel_rfl
theorem J3y{B g mn ml N n:Nat}{f fl:Int ->Option ByteArray}{ws:List (Int×ByteArray)}{vW:Value}(w:World)(h:Jbb w B g mn ml N n f fl ws vW)(k:Nat)(hk:k<N)(s:ByteArray)(hs:s.size=256)(hn:n<=1000000)(hws:ws.length<=1000000)(hB:B<=w.heap.size):
  Cs 28 #[g,(k:Int),s] w fun e w'=>e= .returned (0:Int)/\∃vW',Jbb w' B g mn ml N (n+1) (setS f k s) fl (ws++[((k:Int),s)]) vW'/\Chg (dkF g mn ml vW) w w'/\∀b,dkF g mn ml vW' b ->dkF g mn ml vW b\/w.heap.size<=b:=by
 obtain⟨i0,hi,T,S,R⟩:=qbx J5v;have HI:=zI hi;have Hg:=zI T;have Hh:=zI S;have Hi:=zI R;clear hi T S R;have HO:=zI (Jsh w h);have HG:=zI (Juc w h);obtain⟨wr,left,hb⟩:=h.ex;have e5:=hb.at_ 5 (v:= (N:Int)) rfl;have hN:=h.size.2
 have P:(Lit.int .i64 (k:Int)).wf=true:=by
  have e1:IntKind.i64.min= -9223372036854775808/\IntKind.i64.max=9223372036854775807:=by decide
  simp[Lit.wf,e1.1,e1.2];omega
 have Hj:=zI P;have h1:decide ((k:Int)<0)=false:=qae (by omega);have h2:decide ((N:Int)<=(k:Int))=false:=qae (by omega);clear h hb P;go_enter Tryz.func28,Tryz.ntmps28;go_wp2_with fail
 refine HO.out.mono ?_;rintro e w1 ⟨rfl,hw⟩;subst hw;go_wp2_with fail
 refine HG.out.mono ?_;rintro e w2 ⟨rfl,O,M⟩;have Hk:=zI O;have L:=zI M;have Hl:=zI (Jcs s w2 (by omega));clear O M e5;go_wp2_with fail
 refine Hl.out.mono ?_;rintro e w3 ⟨rfl,K⟩;have i:=(qaa w3.heap.size w3).alloc (qab _) (.cells #[(k:Int),s] 156);have o:=Bx.new w3 156 #[(k:Int),s];obtain⟨w4,d⟩:=exE (w3.alloc (.cells #[(k:Int),s] 156));obtain⟨q,hq⟩:=exE w3.heap.size;rw[<- d] at i o;rw[<- hq] at o;have Hm:=zI d;have HQ:=zI hq;have l:=K.trans (i.mono K.size);have y:=zI (Hk.out.below l);obtain⟨wr4,left4,c⟩:=y.out.ex;have c6:=c.at_ 6 (v:= .map (some mn)) rfl;have p1:=o.at_ 1 (v:= s) rfl;have J:=zI o;have I:=zI c;obtain⟨w5,H,G,E⟩:=(y.out.now.below (w':=w4.drew) (qaa _ _).drew).store_run (by unfold maxLen;omega) Hj.out (show s.size<=maxLen by unfold maxLen;omega);have Hn:=zI G;have p:=zI E;clear d hq i c o G E;go_upto_region 11 with fail
 rw[<- HQ.out,<- Hm.out];go_region
 have C:some g≠some mn:=fun e=>by cases e;exact y.out.now.nocells _ _ _ I.out.blk
 have A:some q≠some mn:=fun e=>by cases e;exact y.out.now.nocells _ _ _ J.out.blk
 have a:=zI ((I.out.below (w':=w4.drew) (qaa _ _).drew).grown p.out C);have hJ:=zI ((J.out.below (w':=w4.drew) (qaa _ _).drew).grown p.out A)
 have Ha:vW.ownBlock=none\/vW.ownBlock≠some mn:=by
  cases e:vW.ownBlock with
  | none=>exact .inl rfl
  | some z=>
    obtain⟨cs,Z⟩:=Jcu y.out.row e;exact .inr fun e2=>by cases e2;exact y.out.now.nocells _ _ _ Z
 have Hb:=zI ((Jah y.out.row (w':=w4.drew) (qaa _ _).drew).kept p.out Ha);have Ho:=zI ((y.out.lasts.below (w':=w4.drew) (qaa _ _).drew).grown p.out (fun e=>y.out.ne (qc3 e).symm));obtain⟨AW,cW,rfl,_⟩:=Jap Hb.out;have d0:=a.out.at_ 8 rfl;have d1:=hJ.out.at_ 0 (v:= (k:Int)) rfl;have d2:=hJ.out.at_ 1 (v:= s) rfl;clear c6 p1 H C A Ha;go_upto_region 12 with fail
 have Y:=(qaa w5.heap.size w5).alloc (qab _) (.cells #[(k:Int),s] 156);have u:=Y.drew;have d0a:=(a.out.below Y).at_ 8 rfl;have r:=zI u;have Hp:=zI ((Sl.new w5 156 w5.heap.size [(k:Int),s] #[(k:Int),s] rfl rfl).below (qaa _ _).drew)
 have Hq:=zI (show ∀x∈[Value.int .i64 (k:Int),s],x.oneCell'=true from fun x hx=>by
  rcases qa6.1 hx with rfl | hx
  · rfl
  · rw[qaz.1 hx];rfl)
 have W:=zI (Jah Hb.out u);have Hc:=zI (a.out.below u)
 have j:B<=(w5.alloc (.cells #[(k:Int),s] 156)).drew.heap.size:=by
  have e1:=L.out.size;have e2:=l.size;have e3:=p.out.size;have e4:=u.size;have e5:w4.drew.heap.size=w4.heap.size:=rfl;omega
 have Hr:=zI j;clear Y u j
 go_region_law (first
  | (refine Jb4 _ (by rfl) _ _ 95 (by rfl) B 156 i0 _ 2 24 Tryz.underlying95 HI.out Hg.out Hh.out Hi.out rfl (by decide) (.slice AW ws.length cW) ws.length (ws.flatMap Jbv) (by rfl) W.out (some ⟨w5.heap.size,0,none⟩) 1 1 [(k:Int),s] (by rfl) rfl Hp.out Hq.out (by unfold maxLen;omega) (by omega) Hr.out ?_
     intro v6 w6 t V Hd;obtain⟨AY,cY,eY,_⟩:=Jap t;subst eY;have BX6:=zI (Hc.out.grown V (Hc.out.not_row W.out (by decide)));have d8:=BX6.out.at_ 8 rfl;have f8:=BX6.out.free 8))
 all_goals
  have U:=Jak w6 g 8 (.slice AY (ws.length+1) cY);have bx7:=BX6.out.set 8 (.slice AY (ws.length+1) cY);have Hs:=t.kept U (.inr (fun e=>BX6.out.not_row t (by decide) e.symm))
  have He:∀ {m n':Nat} {f':Int ->Option ByteArray},SMap w5 m n' f' ->SMap (w6.setCell ⟨g,8,none⟩ (.slice AY (ws.length+1) cY)) m n' f':=fun {m n' f'} h=>by
   have h6:=(h.below r.out).grown V (fun e=>by
    obtain⟨cs,Z⟩:=Jcu W.out e.symm;exact(h.below r.out).nocells _ _ _ Z)
   exact h6.grown U (fun e=>by cases e;exact h6.nocells _ _ _ BX6.out.blk)
  have Ht:=He Hn.out;obtain⟨D,Hu,Hv⟩:=(He Ho.out).own;have Hw:SMap (w6.setCell ⟨g,8,none⟩ (.slice AY (ws.length+1) cY)) ml (n+1) fl:=⟨D,Hu.mono (Nat.le_succ n),Hv⟩;have c1:Chg (dkF g mn ml (.slice AW ws.length cW)) w w2:= .of_grown L.out (fun b e=>by cases e;exact .inl rfl);have c3:Chg (dkF g mn ml (.slice AW ws.length cW)) w w5:=((c1.then_below l).then_below (qaa w4.heap.size w4).drew).trans (Chg.of_grown (F:=dkF g mn ml (.slice AW ws.length cW)) p.out (fun b e=>by cases e;exact .inr (.inl rfl))) (fun b h=> .inl h);have c5:=(c3.then_below r.out).trans (Chg.of_grown (F:=dkF g mn ml (.slice AW ws.length cW)) V (fun b e=> .inr (.inr (.inr e)))) (fun b h=> .inl h);have c7:=c5.trans (Chg.of_grown (F:=dkF g mn ml (.slice AW ws.length cW)) U (fun b e=>by cases e;exact .inl rfl)) (fun b h=> .inl h);have Hx:w.heap.size<=(w5.alloc (.cells #[(k:Int),s] 156)).drew.heap.size:=(c3.then_below r.out).size
  have Hf:(w6.setCell ⟨g,8,none⟩ (.slice AY (ws.length+1) cY)).ownsRow B 156 2 (.slice AY (ws.length+1) cY) (ws++[((k:Int),s)]).length ((ws++[((k:Int),s)]).flatMap Jbv):=by
   rw[qad,qay];exact Hs
  go_wp2_with fail
  go_ret;refine⟨rfl,.slice AY (ws.length+1) cY,⟨⟨wr4,left4,bx7⟩,Hf,Ht,Hw,y.out.ne,y.out.size⟩,c7,fun b hb=> ?_⟩;rcases hb with h | h | h | h
  · exact .inl (.inl h)
  · exact .inl (.inr (.inl h))
  · exact .inl (.inr (.inr (.inl h)))
  · rcases Hd with e | e
    · exact .inl (.inr (.inr (.inr (e.symm.trans h))))
    · have h9:=qc3 (e.symm.trans h)
      exact .inr (by rw[<- h9];exact Hx)
theorem J7l(N:Nat)(w:World)(h1:1<=N)(h2:N<=4096):
  Cs 11 #[(N:Int)] w fun e w'=>∃g mn ml,e= .returned (g:Nat)/\Jbb w' w.heap.size g mn ml N 0 (fun _=>none) (fun _=>none) [] (.slice none 0 0)/\Below w.heap.size w w'/\∀b,dkF g mn ml (.slice none 0 0) b ->w.heap.size<=b:=by
 have d1:decide ((N:Int)<1)=false:=qae (by omega);have d2:decide ((4096:Int)<(N:Int))=false:=qae (by omega);have v:=@run_makeMap Tryz.prog;go_enter Tryz.func11,Tryz.ntmps11;go_wp2_with fail
 go_ret;have m1:=SMap.made w;have m2:=SMap.made (w.alloc (.map #[] 0));have b1:=(qaa w.heap.size w).alloc (qab _) (.map #[] 0);have b2:=(qaa (w.alloc (.map #[] 0)).heap.size (w.alloc (.map #[] 0))).alloc (qab _) (.map #[] 0);have b3:=(qaa ((w.alloc (.map #[] 0)).alloc (.map #[] 0)).heap.size ((w.alloc (.map #[] 0)).alloc (.map #[] 0))).alloc (qab _) (.cells #[true,(0:Int),false,(0:Int),.slice none 0 0,(N:Int),.map (some w.heap.size),.map (some (w.heap.size+1)),.slice none 0 0] 97);have x:=Bx.new ((w.alloc (.map #[] 0)).alloc (.map #[] 0)) 97 #[true,(0:Int),false,(0:Int),.slice none 0 0,(N:Int),.map (some w.heap.size),.map (some (w.heap.size+1)),.slice none 0 0];have z:(w.alloc (.map #[] 0)).heap.size=w.heap.size+1:=by simp
 have y:((w.alloc (.map #[] 0)).alloc (.map #[] 0)).heap.size=w.heap.size+2:=by simp
 have m2':=m2.below b3;rw[z] at m2';rw[y] at x;refine⟨w.heap.size+2,w.heap.size,w.heap.size+1,by first | rfl | simp,⟨⟨0,0,x⟩,qax _ _ _ _,(m1.below b2).below b3,m2',by omega,h1,h2⟩,(b1.trans (b2.mono b1.size)).trans (b3.mono (qat b1.size b2.size)),fun b hb=> ?_⟩
 rcases hb with rfl | rfl | rfl | h
 · omega
 · omega
 · omega
 · cases h
def Jh6 (fl:Int ->Option ByteArray) (ws:List (Int×ByteArray)):Int ->Option ByteArray:=ws.foldl (fun f x=>setS f x.1 x.2) fl
theorem Jmf(fl:Int ->Option ByteArray)(ws:List (Int×ByteArray))(x:Int×ByteArray):Jh6 fl (ws++[x])=setS (Jh6 fl ws) x.1 x.2:=by simp[Jh6]
theorem J92{w:World}{A:Option Addr}{ws:List (Int×ByteArray)}(h:Sl w A (ws.flatMap Jbv)){k:Nat}(hk:k<ws.length):
  ∃b off,A=some ⟨b,off,none⟩/\w.cell? ⟨b,off+k*2,none⟩=some (.int .i64 ws[k].1)/\w.cell? ⟨b,off+k*2+1,none⟩=some (.string ws[k].2):=by
 have z:(ws.flatMap Jbv).length=2*ws.length:=by
  have:∀l:List (Int×ByteArray),(l.flatMap Jbv).length=2*l.length:=fun l=>by
   induction l with
   | nil=>rfl
   | cons a r ih=>rw[qas,qad,ih,qa3];simp[Jbv];omega
  exact this ws
 have x:∀ (l:List (Int×ByteArray)) (k:Nat) (hk:k<l.length),(l.flatMap Jbv)[k*2]? =some (.int .i64 l[k].1)/\(l.flatMap Jbv)[k*2+1]? =some (.string l[k].2):=by
  intro l
  induction l with
  | nil=>intro k hk;simp at hk
  | cons a r ih=>
    intro k hk;cases k with
    | zero=>exact⟨rfl,rfl⟩
    | succ k=>
      have:=ih k (by simpa using hk);rw[show(k+1)*2=k*2+2 by omega];exact this
 obtain⟨b,off,e,_,y⟩:=h.at_ (fun e=>by rw[e] at z;simp at z;omega);obtain⟨v,u⟩:=x ws k hk;exact⟨b,off,e,y _ _ v,y _ _ u⟩
theorem Jbb.lastSet{w w':World}{B g mn ml N n:Nat}{f fl fl':Int ->Option ByteArray}{ws:List (Int×ByteArray)}{vW:Value}(h:Jbb w B g mn ml N n f fl ws vW)(hm:SMap w' ml (n+1) fl')(hg:w.grownBy w' (some ml)):Jbb w' B g mn ml N (n+1) f fl' ws vW:=by
 obtain⟨wr,left,u⟩:=h.ex;have y:some g≠some ml:=fun e=>by cases e;exact h.lasts.nocells _ _ _ u.blk
 have x:vW.ownBlock=none\/vW.ownBlock≠some ml:=by
  cases e:vW.ownBlock with
  | none=>exact .inl rfl
  | some z=>
    obtain⟨cs,v⟩:=Jcu h.row e;exact .inr fun e2=>by cases e2;exact h.lasts.nocells _ _ _ v
 obtain⟨D,t,s⟩:=(h.now.grown hg (fun e=>h.ne (qc3 e))).own;exact⟨⟨wr,left,u.grown hg y⟩,h.row.kept hg x,⟨D,t.mono (Nat.le_succ n),s⟩,hm,h.ne,h.size⟩
theorem J3z{B g mn ml N n:Nat}{f fl:Int ->Option ByteArray}{ws:List (Int×ByteArray)}{vW:Value}(w:World)(h:Jbb w B g mn ml N n f fl ws vW)(hw:∀x∈ws,(Lit.int .i64 x.1).wf=true/\x.2.size<=maxLen)(hn:n+ws.length<=1000000):
  Cs 161 #[g] w fun e w'=>e= .returned (0:Int)/\Jbb w' B g mn ml N (n+ws.length) f (Jh6 fl ws) [] (.slice none 0 0)/\Chg (dkF g mn ml vW) w w':=by
 have J:=zI (Jsh w h);have I:=zI (Juc w h);have H:=zI hw;obtain⟨AW,cW,rfl,_⟩:=Jap h.row;clear h hw;go_enter Tryz.func161,Tryz.ntmps161;go_wp2_with fail
 refine J.out.mono ?_;rintro e w1 ⟨rfl,hw⟩;subst hw;go_wp2_with fail
 refine I.out.mono ?_;rintro e w2 ⟨rfl,p,a⟩;have S:=zI p;have R:=zI (show Chg (dkF g mn ml (.slice AW ws.length cW)) w w2 from .of_grown a (fun b e=>by cases e;exact .inl rfl));obtain⟨wr2,left2,Z⟩:=p.ex;have c8:=Z.at_ 8 rfl;clear p a Z;go_wp2_with fail
 go_loopw [25] (fun i wr=>∃k:Nat,k<=ws.length/\i= .int .i64 (k:Int)/\Jbb wr B g mn ml N (n+k) f (Jh6 fl (ws.take k)) ws (.slice AW ws.length cW)/\Chg (dkF g mn ml (.slice AW ws.length cW)) w wr) (fun i _=>ws.length - (intOf i).toNat)
 case atStart=>exact⟨0,qaq _,rfl,S.out,R.out⟩
 case round=>
  obtain⟨k,E,rfl,u,T⟩:=hrel;by_cases o:k<ws.length
  · obtain⟨_,_,e,Y⟩:=Jap u.row
    cases e
    obtain⟨b,off,rfl,q0,q1⟩:=J92 Y o
    have G:=zI (show Jh6 fl (ws.take (k+1))=setS (Jh6 fl (ws.take k)) ws[k].1 ws[k].2 from by
     have e:ws.take (k+1)=ws.take k++[ws[k]]:=by rw[List.take_add_one,qam o];rfl
     rw[e,Jmf])
    obtain⟨P,O⟩:=H.out _ (qal o);generalize ws[k].1=at_ at*;generalize ws[k].2=s at*;have r:=(qaa wr.heap.size wr).alloc (qab _) (.cells #[(at_:Int),s] 156);have q:=Bx.new wr 156 #[(at_:Int),s];obtain⟨w4,m⟩:=exE (wr.alloc (.cells #[(at_:Int),s] 156));have M:=zI m;rw[<- m] at r q;have l:=u.below r;have t:=l.below (w':=w4.drew) (qaa _ _).drew;obtain⟨wr4,left4,z⟩:=l.ex;have c7:=z.at_ 7 (v:= .map (some ml)) rfl;have p0:=q.at_ 0 (v:= (at_:Int)) rfl;have p1:=q.at_ 1 (v:= s) rfl;obtain⟨w5,L,W,y⟩:=t.lasts.store_run (by unfold maxLen;omega) P O;have j:=zI (t.lastSet W y);have d:=zI (((T.then_below r).then_below (qaa w4.heap.size w4).drew).trans (Chg.of_grown (F:=dkF g mn ml (.slice (some ⟨b,off,none⟩) ws.length cW)) y (fun b e=>by cases e;exact .inr (.inr (.inl rfl)))) (fun b h=> .inl h));clear u T r q m l t z W y Y;go_upto_region 9 with fail
    rw[<- M.out];go_region
    go_wp2_with fail
    go_roundw
    case rel=>exact⟨k+1,by omega,by go_num,by rw[G.out];exact j.out,d.out⟩
    case measure=>simp[intOf];omega
  · have c:ws.length=k:=by omega
    have K:=zI (show ws.take k=ws from by rw[<- c,qb4]);rw[K.out] at u;obtain⟨wr4,left4,z⟩:=u.ex;have f8:=z.free 8;have c8':=z.at_ 8 rfl;have bx5:=z.set 8 (.slice none 0 0);have y:=Jak wr g 8 (.slice none 0 0);have V:=u.now.grown y (fun e=>by cases e;exact u.now.nocells _ _ _ z.blk);have U:=u.lasts.grown y (fun e=>by cases e;exact u.lasts.nocells _ _ _ z.blk);have j:=zI (show Jbb (wr.setCell ⟨g,8,none⟩ (.slice none 0 0)) B g mn ml N (n+ws.length) f (Jh6 fl ws) [] (.slice none 0 0) from⟨⟨wr4,left4,bx5⟩,qax _ _ _ _,by rw[c];exact V,by rw[c];exact U,u.ne,u.size⟩);have d:=zI (T.trans (Chg.of_grown (F:=dkF g mn ml (.slice AW ws.length cW)) y (fun b e=>by cases e;exact .inl rfl)) (fun b h=> .inl h));clear u T z bx5 y V U K;go_wp2_with fail
    go_ret;exact⟨rfl,j.out,d.out⟩
end Go.Proofs.YtglmhddbhhcjdaaGreatDoor
namespace Go.Proofs.YtglmhddbhhcjdaaGreatDoor
open Go.RowKit
def Jsi (f:Int ->Option ByteArray):Prop:=∀k s,f k=some s ->s.size=256
theorem Jsi.set{f:Int ->Option ByteArray}(h:Jsi f){k:Int}{s:ByteArray}(hs:s.size=256):Jsi (setS f k s):=by
 intro i t e;unfold setS at e;split at e
 · cases e;exact hs
 · exact h i t e
theorem Jsi.none:Jsi (fun _=>Option.none):=fun _ _ e=>by cases e
structure DkAt (w:World) (F:Nat ->Prop) (g N n:Nat) (f fl:Int ->Option ByteArray) (ws:List (Int×ByteArray)):Prop where
 ex:∃B mn ml vW,Jbb w B g mn ml N n f fl ws vW/\B<=w.heap.size/\∀b,dkF g mn ml vW b ->F b
 ins:Ins F w
 ws:∀x∈ws,0<=x.1/\x.1<N/\x.2.size=256
 now:Jsi f
section
variable {w w':World} {F G:Nat ->Prop} {g N n:Nat} {f fl:Int ->Option ByteArray} {ws:List (Int×ByteArray)}
theorem Jbb.ins{B mn ml:Nat}{vW:Value}(h:Jbb w B g mn ml N n f fl ws vW):∀b,dkF g mn ml vW b ->b<w.heap.size:=by
 obtain⟨wr,left,z⟩:=h.ex;rintro b (rfl | rfl | rfl | y)
 · exact z.lt
 · exact h.now.lt
 · exact h.lasts.lt
 · obtain⟨cur,x⟩:=Jcu h.row y
   exact qb2 x
theorem DkAt.size(h:DkAt w F g N n f fl ws):1<=N/\N<=4096:=by obtain⟨_,_,_,_,z,_⟩:=h.ex;exact z.size
theorem DkAt.chg(h:DkAt w F g N n f fl ws)(hc:Chg G w w')(hd:Dj F G):DkAt w' F g N n f fl ws:=by
 obtain⟨B,mn,ml,vW,y,x,z⟩:=h.ex;exact⟨⟨B,mn,ml,vW,y.chg hc (fun b hb=>hd b (z b hb)),qat x hc.size,z⟩,h.ins.up hc.size,h.ws,h.now⟩
theorem DkAt.below(h:DkAt w F g N n f fl ws)(hb:Below w.heap.size w w'):DkAt w' F g N n f fl ws:=h.chg (G:=fun _=>False) (Chg.of_below hb) (fun _ _ x=>x)
theorem DkAt.sub(h:DkAt w F g N n f fl ws)(hs:∀b,F b ->G b)(hi:Ins G w):DkAt w G g N n f fl ws:=by
 obtain⟨B,mn,ml,vW,z,y,x⟩:=h.ex;exact⟨⟨B,mn,ml,vW,z,y,fun b hb=>hs b (x b hb)⟩,hi,h.ws,h.now⟩
theorem DkAt.read_size(h:DkAt w F g N n f fl ws)(k:Int):(Jbd f k).size=256:=by
 unfold Jbd;cases e:f k with
 | none=>show(strOf (zeros 256)).size=256;rw[Jab,Jcj]
 | some s=>exact h.now k s e
theorem Joa(h:DkAt w F g N n f fl ws)(k:Nat)(hk:k<N):
  Cs 27 #[g,(k:Int)] w (RB w (.tuple #[(Jbd f k),(0:Int)])):=by
 obtain⟨B,mn,ml,vW,z,_⟩:=h.ex;exact J7k w z k hk
theorem Jmg(h:DkAt w F g N n f fl ws):Cs 36 #[g] w (RS w (N:Int)):=by
 obtain⟨B,mn,ml,vW,z,_⟩:=h.ex;exact Jv6 w z
theorem Jzk(h:DkAt w F g N n f fl ws)(k:Nat)(hk:k<N)(s:ByteArray)(hs:s.size=256)(hn:n<=1000000)(hws:ws.length<=1000000):
  Cs 28 #[g,(k:Int),s] w fun e w'=>e= .returned (0:Int)/\DkAt w' (grow F w w') g N (n+1) (setS f k s) fl (ws++[((k:Int),s)])/\Chg F w w':=by
 obtain⟨B,mn,ml,vW,r,v,u⟩:=h.ex;refine(J3y w r k hk s hs hn hws v).mono ?_;rintro e w' ⟨rfl,vW',t,z,q⟩;refine⟨rfl,⟨⟨B,mn,ml,vW',t,qat v z.size,fun b hb=> ?_⟩,h.ins.grow z.size,?_,h.now.set hs⟩,z.sub u⟩
 · rcases q b hb with x | x
   · exact .inl (u b x)
   · exact .inr ⟨x,t.ins b hb⟩
 · intro x p
   rcases qbc.1 p with y | y
   · exact h.ws x y
   · rw[qaz.1 y];exact⟨by show(0:Int)<=(k:Int);omega,by show(k:Int)<N;omega,hs⟩
theorem Jzl(h:DkAt w F g N n f fl ws)(hn:n+ws.length<=1000000):
  Cs 161 #[g] w fun e w'=>e= .returned (0:Int)/\DkAt w' (grow F w w') g N (n+ws.length) f (Jh6 fl ws) []/\Chg F w w':=by
 obtain⟨B,mn,ml,vW,v,u,z⟩:=h.ex;have s:=v.size.2;refine(J3z w v (fun x hx=> ?_) hn).mono ?_
 · obtain⟨a,b,c⟩:=h.ws x hx
   refine⟨?_,by unfold maxLen;omega⟩;have e1:IntKind.i64.min= -9223372036854775808/\IntKind.i64.max=9223372036854775807:=by decide
   simp[Lit.wf,e1.1,e1.2];omega
 · rintro e w' ⟨rfl,t,y⟩
   refine⟨rfl,⟨⟨B,mn,ml,_,t,qat u y.size,fun b hb=> ?_⟩,h.ins.grow y.size,by simp,h.now⟩,y.sub z⟩;rcases hb with x | x | x | x
   · exact .inl (z b (.inl x))
   · exact .inl (z b (.inr (.inl x)))
   · exact .inl (z b (.inr (.inr (.inl x))))
   · cases x
theorem J7m(N:Nat)(w:World)(h1:1<=N)(h2:N<=4096):
  Cs 11 #[(N:Int)] w fun e w'=>∃g,e= .returned (g:Nat)/\DkAt w' (made w w') g N 0 (fun _=>none) (fun _=>none) []/\Below w.heap.size w w':=by
 refine(J7l N w h1 h2).mono ?_;rintro e w' ⟨g,mn,ml,rfl,z,y,x⟩;exact⟨g,rfl,⟨⟨_,mn,ml,_,z,y.size,fun b hx=>⟨x b hx,z.ins b hx⟩⟩,Ins.made,by simp,Jsi.none⟩,y⟩
end
structure DkW (w0:World) (F:Nat ->Prop) (w:World) (g N n:Nat) (f fl:Int ->Option ByteArray) (ws:List (Int×ByteArray)):Prop where
 at_:DkAt w (grow F w0 w) g N n f fl ws
 chg:Chg F w0 w
 ins:Ins F w0
section
variable {w0 w w':World} {F G:Nat ->Prop} {g N n n':Nat} {f f' fl fl':Int ->Option ByteArray} {ws ws':List (Int×ByteArray)}
theorem DkW.start(h:DkAt w F g N n f fl ws):DkW w F w g N n f fl ws:=⟨h.sub (fun _=> .inl) (h.ins.grow (qab _)),Chg.refl _ _,h.ins⟩
theorem DkW.mk'(h:DkAt w F g N n f fl ws)(k:DkAt w' (grow F w w') g N n' f' fl' ws')(hc:Chg F w w'):DkW w F w' g N n' f' fl' ws':=⟨k,hc,h.ins⟩
theorem DkW.trans(h:DkW w0 F w g N n f fl ws)(k:DkW w (grow F w0 w) w' g N n' f' fl' ws'):DkW w0 F w' g N n' f' fl' ws':=
 ⟨by have:=k.at_;rwa [grow_grow F h.chg.size k.chg.size] at this,h.chg.seq k.chg,h.ins⟩
theorem DkW.below(h:DkW w0 F w g N n f fl ws)(hb:Below w.heap.size w w'):DkW w0 F w' g N n f fl ws:=
 ⟨(h.at_.below hb).sub (fun _ x=>Jcg x hb.size) (h.ins.grow (qat h.chg.size hb.size)),h.chg.then_below hb,h.ins⟩
theorem DkW.write(h:DkW w0 F w g N n f fl ws)(k:Nat)(hk:k<N)(s:ByteArray)(hs:s.size=256)(hn:n<=1000000)(hws:ws.length<=1000000):
  Cs 28 #[g,(k:Int),s] w fun e w'=>e= .returned (0:Int)/\DkW w0 F w' g N (n+1) (setS f k s) fl (ws++[((k:Int),s)]):=by
 refine(Jzk h.at_ k hk s hs hn hws).mono ?_;rintro e w' ⟨rfl,z,y⟩;exact⟨rfl,h.trans (DkW.mk' h.at_ z y)⟩
theorem DkW.flush(h:DkW w0 F w g N n f fl ws)(hn:n+ws.length<=1000000):
  Cs 161 #[g] w fun e w'=>e= .returned (0:Int)/\DkW w0 F w' g N (n+ws.length) f (Jh6 fl ws) []:=by
 refine(Jzl h.at_ hn).mono ?_;rintro e w' ⟨rfl,z,y⟩;exact⟨rfl,h.trans (DkW.mk' h.at_ z y)⟩
theorem DkW.back{w1:World}(h:DkW w1 F w' g N n f fl ws)(hb:Below w0.heap.size w0 w1)(hi:Ins F w0):DkW w0 F w' g N n f fl ws:=
 ⟨h.at_.sub (fun _ x=>Jfm x hb.size) (hi.grow (qat hb.size h.chg.size)),Chg.after_below hb h.chg (fun _ x=> .inl x),hi⟩
theorem Ins.not(h:Ins F w): ¬ F w.heap.size:=fun x=>by have:=h _ x;omega
end
structure Jd3 (N C B D R:Nat):Prop where
 n:64<=N/\N<=4096
 c:C=N / 200+10
 b:B=28+N / 200
 d:D=38+2*(N / 200)
 r:R=(N - D) / 2
theorem Jd3.bd{N C B D R:Nat}(h:Jd3 N C B D R):10<=C/\C<=30/\B=18+C/\D=18+2*C/\D<=N/\2*R<=N - D:=by
 obtain⟨z,y,x,w,v⟩:=h;omega
abbrev Jdv (N C B D R:Nat) (d:Addr) (gen id mp bk:Nat) (lg:Option Addr) (bad:Int):Array Value:=
 #[(N:Int),(2:Int),(18:Int),(B:Int),(C:Int),(D:Int),(R:Int),.pointer (some d),.int .u64 (gen:Int),.int .u64 (id:Int),.map (some mp),bk,.pointer lg,(bad:Int)]
def Jck (B gen:Nat):Nat:=if gen % 2=1 then 18 else B
section
variable {w:World} {g N C B D R gen id mp bk:Nat} {d:Addr} {lg:Option Addr} {bad:Int}
theorem Jue(k:Nat)(h:Bo w g (Jdv N C B D R d gen id mp bk lg bad)):
  Cs 211 #[g,.int .u64 (k:Int)] w (RS w (Jck B k:Int)):=by
 have x2:=h.at_ 2 (v:= (18:Int)) rfl;have x3:=h.at_ 3 (v:= (B:Int)) rfl;clear h;by_cases y:k % 2=1
 · have z:=zI (show Jck B k=18 from qa2 y)
   have d1:((k:Int) % 2==1)=true:=by rw[beq_iff_eq];omega
   go_enter Tryz.func211,Tryz.ntmps211;go_wp2_with fail
   go_ret;rw[z.out];exact⟨rfl,rfl⟩
 · have z:=zI (show Jck B k=B from qav y)
   have d1:((k:Int) % 2==1)=false:=by rw[qaw];omega
   go_enter Tryz.func211,Tryz.ntmps211;go_wp2_with fail
   go_ret;rw[z.out];exact⟨rfl,rfl⟩
theorem Jjj(h:Bo w g (Jdv N C B D R d gen id mp bk lg bad)):
  Cs 76 #[g] w fun e w'=>e= .returned false/\w=w':=by
 have x7:=h.at_ 7 (v:= .pointer (some d)) rfl;clear h;go_enter Tryz.func76,Tryz.ntmps76;go_wp2_with fail
 go_ret;exact⟨rfl,rfl⟩
end
theorem J30(k:Nat)(w:World)(h:k<5):Cs 221 #[(k:Int)] w (RS w (.string ⟨#[108,105,118,101]⟩)):=by
 have d1:decide ((5:Int)<=(k:Int))=false:=qae (by omega);go_enter Tryz.func221,Tryz.ntmps221;go_wp2_with fail
 go_ret;exact⟨rfl,rfl⟩
theorem J7n(w:World):Cs 215 #[.agg #[ByteArray.empty,.slice none 0 0]] w fun e w'=>e= .returned true/\Below w.heap.size w w':=by
 have v:=(qaa w.heap.size w).alloc (qab _) (.cells #[ByteArray.empty,.slice none 0 0] 101);have y:∀W,Tis W none 0 []:=fun W=>⟨Sl.nil _ _,rfl,by unfold maxLen;omega,by simp⟩;have t:=zI (fun W=>Py.same_any ByteArray.empty ByteArray.empty none none 0 0 0 0 [] [] W (y W) (y W));have u:=zI v;clear v y;go_enter Tryz.func215,Tryz.ntmps215;go_wp2_with fail
 refine(t.out _).mono ?_;rintro e w1 ⟨rfl,z⟩;have x:=zI (u.out.trans (z.mono u.out.size));have s:=zI (show Py.sameP ByteArray.empty ByteArray.empty [] []=true from Py.sameP_iff.2 ⟨rfl,rfl⟩);rw[s.out];clear z;go_wp2_with fail
 go_ret;exact⟨rfl,x.out⟩
end Go.Proofs.YtglmhddbhhcjdaaGreatDoor
