/- Laws that the walk of the last text wants. -/
import Derived.Test.YtglmhddbhhcjdaaGreatDoorC12
import Derived.Test.YtglmhddbhhcjdaaGreatDoorC13
import Derived.Test.YtglmhddbhhcjdaaGreatDoorC20
set_option maxRecDepth 100000
set_option linter.unusedSimpArgs false
set_option maxHeartbeats 4000000
namespace Go.Proofs.YtglmhddbhhcjdaaGreatDoor
open Go.RowKit
theorem Jag.tabs{w:World}{F:Nat ->Prop}{g:Nat}{t:Tv}(h:Jag w F g t):∃A c B m d L cl ga gm,Bx w g 164 #[(t.r.now:Int),t.r.nm,.slice A t.tabs.length c,.slice B m d,.slice L t.tabs.length cl]/\Jem w A t.tabs.length B m t.r/\Jpn w F L t.tabs.length ga gm t.r.ev t.tab:=by
 obtain⟨A,c,B,m,d,L,cl,ga,gm,z,y,_,_,_,_,x⟩:=h.ex;exact⟨A,c,B,m,d,L,cl,ga,gm,z,y,x⟩
theorem Jgo{F:Nat ->Prop}{g:Nat}{t:Tv}(w:World)(h:Jag w F g t)(h1:1<=t.tabs.length):
  Cs 87 #[g] w fun e w'=>e= .returned false/\w=w':=by
 obtain⟨A,c,B,m,d,L,cl,ga,gm,z,_,_⟩:=h.tabs;obtain⟨n,y⟩:=exE t.tabs.length;rw[<- y] at z h1;have s4:=z.at_ 4 (v:= .slice L n cl) rfl;have d1:((n:Int)==0)=false:=by rw[qat];omega
 clear h z y;go_enter Tryz.func87,Tryz.ntmps87;go_wp2;go_ret;exact⟨rfl,rfl⟩
theorem J6n{F:Nat ->Prop}{g:Nat}{t:Tv}(w:World)(h:Jag w F g t)(i:Nat)(hi:i<t.tabs.length):
  Cs 266 #[g,(i:Int)] w fun e w'=>e= .returned true/\w=w':=by
 obtain⟨A,c,B,m,d,L,cl,ga,gm,z,_,_⟩:=h.tabs;have x:=zI (Jgo w h (by omega));obtain⟨n,y⟩:=exE t.tabs.length;rw[<- y] at z hi;have s4:=z.at_ 4 (v:= .slice L n cl) rfl;have d1:decide ((i:Int)<(n:Int))=true:=qaj (by omega);have d2:decide (i<n)=true:=qaj hi;have d3:decide ((0:Int)<=(i:Int))=true:=qaj (by omega);clear h z y;go_enter Tryz.func266,Tryz.ntmps266;go_wp2_with fail
 refine x.out.mono ?_;rintro e w1 ⟨rfl,u⟩;subst u;go_wp2_with fail
 go_ret;exact⟨rfl,rfl⟩
theorem Jzp{F:Nat ->Prop}{g:Nat}{t:Tv}(w:World)(h:Jag w F g t)(i:Nat)(hi:i<t.tabs.length):
  Cs 188 #[g,(i:Int)] w fun e w'=>∃g2 mm2,e= .returned (g2:Nat)/\Jan w' g2 mm2 (t.r.ev i) (t.tab i)/\Below w.heap.size w w'/\w.heap.size<=g2/\w.heap.size<=mm2:=by
 obtain⟨A,c,B,m,d,L,cl,ga,gm,y,_,z⟩:=h.tabs;have q:=zI (J6n w h i hi);have p:=zI (Jpm (z.tab i hi));obtain⟨n,u⟩:=exE t.tabs.length;rw[<- u] at y hi z;obtain⟨b,off,rfl,_,x⟩:=Jt7 z.row hi;have s4:=y.at_ 4 (v:= .slice (some ⟨b,off,none⟩) n cl) rfl;clear h y u z;go_enter Tryz.func188,Tryz.ntmps188;go_wp2_with fail
 refine q.out.mono ?_;rintro e w1 ⟨rfl,o⟩;subst o;go_wp2_with fail
 refine p.out.mono ?_;rintro e w2 ⟨g2,mm2,rfl,s⟩;have l:=zI s;clear s;go_wp2_with fail
 go_ret;exact⟨g2,mm2,rfl,l.out⟩
theorem J4r{F:Nat ->Prop}{g:Nat}{t:Tv}(w:World)(h:Jag w F g t)(i:Nat)(hi:i<t.tabs.length)(hfew:(t.tab i).length<1000000):
  Cs 311 #[g,(i:Int)] w fun e w'=>∃v,e= .returned v/\w'.ownsRow w.heap.size 142 7 v (t.tab i).length ((t.tab i).flatMap Rc.cells)/\Below w.heap.size w w':=by
 have q:=zI (Jzp w h i hi);clear h;go_enter Tryz.func311,Tryz.ntmps311;go_wp2_with fail
 refine q.out.mono ?_;rintro e w1 ⟨g2,mm2,rfl,s,r,_,_⟩;have p:=zI (Jn3 s hfew);have y:=zI r;clear s r;go_wp2_with fail
 refine p.out.mono ?_;rintro e w2 ⟨v,rfl,x,z⟩;have o:=zI x;have u:=zI (y.out.trans (z.mono y.out.size));obtain⟨Av,cv,rfl,_⟩:=Jao x;clear x z;go_wp2_with fail
 go_ret;exact⟨_,rfl,Jde o.out y.out.size,u.out⟩
def Jbs (t:Tv):Nat ->Int
 | 0=>0
 | k+1=>Jbs t k+Jix (t.r.sh k) (t.tab k)
def Tv.need (t:Tv):Int:=Jbs t t.tabs.length
def Tv.setTab (t:Tv) (i:Nat) (l:List Rc):Tv:=⟨t.r,t.tabs.set i l⟩
theorem Tv.setTab_len(t:Tv)(i:Nat)(l:List Rc):(t.setTab i l).tabs.length=t.tabs.length:=by simp[Tv.setTab]
theorem Tv.setTab_same{t:Tv}{i:Nat}{l:List Rc}(h:i<t.tabs.length):(t.setTab i l).tab i=l:=by simp[Tv.setTab,Tv.tab,h]
theorem Tv.setTab_other{t:Tv}{i j:Nat}{l:List Rc}(h:j≠i):(t.setTab i l).tab j=t.tab j:=by
 simp only[Tv.setTab,Tv.tab,qdf,List.getElem?_set];rw[qay (fun e=>h e.symm)]
theorem Tv.setTab_twice(t:Tv)(i:Nat)(l k:List Rc):(t.setTab i l).setTab i k=t.setTab i k:=by simp[Tv.setTab]
theorem Tv.setTab_id{t:Tv}{i:Nat}(h:i<t.tabs.length):t.setTab i (t.tab i)=t:=by
 cases t with
 | mk r tabs=>
   simp only[Tv.setTab,Tv.tab] at*
   congr 1
   apply qdc;intro j;rw[List.getElem?_set];split
   · next e=>subst e;simp[h]
   · rfl
theorem Jag.focus{w:World}{F:Nat ->Prop}{g:Nat}{t:Tv}(h:Jag w F g t)(i:Nat)(hi:i<t.tabs.length):
  ∃b off cl ga gm,w.cell? ⟨g,4,none⟩=some (.slice (some ⟨b,off,none⟩) t.tabs.length cl)/\b<w.heap.size/\w.cell? ⟨b,off+i,none⟩=some (.pointer (some ⟨ga,0,none⟩))/\Jan w ga gm (t.r.ev i) (t.tab i)/\F gm/\
   ∀w1 w' l',Below w.heap.size w w1 ->w1.grownBy w' (some gm) ->Jan w' ga gm (t.r.ev i) l' ->Jag w' F g (t.setTab i l')/\Chg F w w'/\w'.heap[g]? =w.heap[g]? :=by
 obtain⟨A,c,B,m,d,L,cl,ga,gm,a,v,U,S,Y,W,y⟩:=h.ex;obtain⟨b,off,e,R,s⟩:=Jt7 y.row hi;subst e;refine⟨b,off,cl,ga i,gm i,a.at_ 4 rfl,R,s,y.tab i hi,(y.ina i hi).2,fun w1 w' l' hb1 hg ht=> ?_⟩
 have V:∀cs T fr,w.heap[gm i]? ≠some (.cells cs T fr):=by
  intro cs T fr e;obtain⟨D,⟨es,k,Z,_⟩,_⟩:=(y.tab i hi).map.own;rw[e] at Z;cases Z
 have q:Chg (fun x=>x=gm i) w w':=(Chg.of_below hb1).trans (Chg.of_grown (F:=fun x=>x=gm i) hg (fun x e=>by cases e;rfl)) (fun x e=> .inl e)
 have far:∀ {A:Option Addr} {xs:List Value},Sl w A xs ->Sl w' A xs:=by
  intro A xs P;refine⟨fun hne=> ?_⟩;obtain⟨b',o',e,o,n⟩:=P.at_ hne;subst e
  have l:b'≠gm i:=by
   intro e;have:=n 0 (xs[0]'(qdd.2 hne)) (by rw[qah (qdd.2 hne)]);rw[e,qdg] at this;obtain⟨D,⟨es,k,Z,_⟩,_⟩:=(y.tab i hi).map.own;simp[World.cell?,Z] at this
  exact⟨b',o',rfl,qar o q.size,fun j u hu=>(q.cell (p:=⟨b',o'+j,none⟩) o l).trans (n j u hu)⟩
 have f:g≠gm i:=fun e=>V _ _ _ (by rw[<- e];exact a.blk);have z:(t.setTab i l').tabs.length=t.tabs.length:=t.setTab_len i l';refine⟨⟨⟨A,c,B,m,d,some ⟨b,off,none⟩,cl,ga,gm,?_,?_,?_,S,Y,W,?_⟩,h.g,h.ins.up q.size,by rw[z];exact h.few,h.nm⟩,q.sub (fun x e=>by rw[e];exact(y.ina i hi).2),q.block g a.lt f⟩
 · rw[z];exact a.chg q f
 · rw[z];exact⟨⟨far v.ts.sl,v.ts.len,v.ts.n_le,v.ts.ok⟩,⟨far v.fs.sl,v.fs.len,v.fs.n_le,v.fs.wf⟩,v.now⟩
 · rw[z];exact U
 · rw[z]
   refine⟨far y.row,fun j hj=> ?_,y.apart,y.ina,y.inl⟩;by_cases e:j=i
   · subst e
     rw[Tv.setTab_same hj];exact ht
   · rw[Tv.setTab_other e]
     refine(y.tab j hj).chg q (fun e2=> ?_) (fun e2=>e (y.apart j i hj hi e2));exact V _ _ _ (by rw[<- e2];exact(y.tab j hj).blk)
structure TLd (wr w':World) (x:Rc):Prop where
 box:Jbv w' wr.heap.size 0 x
 bel:Below wr.heap.size wr w'
theorem TLd.next{wr w1 w':World}{x:Rc}(h:TLd wr w1 x)(hb:Below w1.heap.size w1 w'):TLd wr w' x:=⟨h.box.keep (Jab hb none) (by simp),h.bel.trans (hb.mono h.bel.size)⟩
theorem J4s{F:Nat ->Prop}{g:Nat}{t:Tv}{A:Option Addr}{n c:Nat}{l:List Rc}(w:World)(h:Jag w F g t)(i:Nat)(hi:i<t.tabs.length)(hl:Rcs w A n l)(hA:AIn (fun b=> ¬ F b) A)(hfew:(t.tab i).length+n<1000000)(hall:∀r∈l,t.r.from_ i<=r.st/\Jau (t.r.ev i) r=true)(hev: -9223372036854775808<=t.r.ev i/\t.r.ev i<=9223372036854775807):
  Cs 187 #[g,(i:Int),.slice A n c] w fun e w'=>e= .returned (n:Int)/\Jag w' F g (t.setTab i (addL (t.r.ev i) (t.tab i) l))/\Chg F w w':=by
 have HI:=zI (J6n w h i hi);have HT:=zI h;have C:=zI hl;have HA:=zI hA;have S:=zI hall;have P:=zI hl.len;have B:=zI hev;have HN:=zI h.len;clear h hl hA hall hev;go_enter Tryz.func187,Tryz.ntmps187;go_wp2_with fail
 refine HI.out.mono ?_;rintro e w1 ⟨rfl,hw⟩;subst hw;go_wp2_with fail
 go_loopw [7,16] (fun s j wr=>∃k:Nat,k<=n/\j= .int .i64 (k:Int)/\s= .int .i64 (k:Int)/\Jag wr F g (t.setTab i (addL (t.r.ev i) (t.tab i) (l.take k)))/\Chg F w wr) (fun _ j _=>n - (intOf j).toNat)
 case atStart=>exact⟨0,qaq _,rfl,rfl,by simpa[addL,Tv.setTab_id hi] using HT.out,Chg.refl _ _⟩
 case round=>
  obtain⟨k,hk,rfl,rfl,z,O⟩:=hrel;by_cases hJ:k<n
  · have K:k<l.length:=by rw[P.out];exact hJ
    obtain⟨b,off,rfl,Hw,R⟩:=(C.out.chg O HA.out).get K;have m:=S.out _ (qan K);have v:=zI (And.intro (C.out.nm _ (qan K)) (And.intro (C.out.st _ (qan K)) (C.out.ok _ (qan K))));obtain⟨x,hx⟩:=exE (l[k]);have Ha:=zI hx;rw[<- hx] at R m v;clear hx;have Hb:t.setTab i (addL (t.r.ev i) (t.tab i) (l.take k))=t.setTab i (addL (t.r.ev i) (t.tab i) (l.take k)):=rfl;have N:i<(t.setTab i (addL (t.r.ev i) (t.tab i) (l.take k))).tabs.length:=by rw[Tv.setTab_len];exact hi
    have M:=Tv.setTab_same (l:=addL (t.r.ev i) (t.tab i) (l.take k)) hi
    have Hc:=zI (show(t.setTab i (addL (t.r.ev i) (t.tab i) (l.take k))).setTab i (addL (t.r.ev i) (addL (t.r.ev i) (t.tab i) (l.take k)) [x])=t.setTab i (addL (t.r.ev i) (t.tab i) (l.take (k+1))) from by
     rw[Tv.setTab_twice,Ha.out,qam K,addL,addL,addL,qb8])
    have Hd:=zI (show(addL (t.r.ev i) (t.tab i) (l.take k)).length+1<1000000 from by
     have:=Jjr (ev:=t.r.ev i) (l:=t.tab i) (rs:=l.take k);rw[qao] at this;omega)
    obtain⟨b',off',cl,ga,gm,c4,He,d,q,L,wand⟩:=z.focus i N;obtain⟨A2,c2,B2,m2,d2,L2,cl2,ga2,gm2,hX,Z,_⟩:=z.tabs;rw[Tv.setTab_len] at c4 hX Z;rw[M] at q;generalize addL (t.r.ev i) (t.tab i) (l.take k)=Lk at*
    have Hf:=zI (show ∀W:World,Below wr.heap.size wr W ->Cs 124 #[ga,.slice (some ⟨W.heap.size,0,none⟩) 1 1] (W.alloc (.cells #[x.nm,(x.st:Int),(x.ag.c:Int),(x.ag.hi:Int),.int .u64 x.ag.lo,(x.ag.mn:Int),(x.ag.mx:Int)] 142))
      fun e w'=>e= .returned (1:Int)/\Jag w' F g (t.setTab i (addL (t.r.ev i) (t.tab i) (l.take (k+1))))/\Chg F wr w' from fun W hW=>by
     have J:=hW.alloc hW.size (.cells #[x.nm,(x.st:Int),(x.ag.c:Int),(x.ag.hi:Int),.int .u64 x.ag.lo,(x.ag.mn:Int),(x.ag.mx:Int)] 142);refine(Jt5 _ (q.below J) (show Rcs _ (some ⟨W.heap.size,0,none⟩) 1 [x] from⟨Sl.new W _ _ _ _ rfl (by simp[Rc.cells,Ag.cells]),rfl,by decide,by simpa using v.out.1,by simpa using v.out.2.1,by simpa using v.out.2.2⟩) B.out Hd.out).mono ?_;rintro e w' ⟨rfl,Hg,Hh⟩;obtain⟨h1,h2,_⟩:=wand _ _ _ J Hh Hg;have I:Jag w' F g ((t.setTab i Lk).setTab i (addL (t.r.ev i) Lk [x])):=h1;rw[Hc.out] at I;refine⟨?_,I,h2⟩;have:addN (t.r.ev i) [x]=1:=(by simp[addN,m.2]);show Ending.returned (Value.int .i64 ((addN (t.r.ev i) [x]:Nat):Int))=_;rw[this];rfl)
    have Hi:=zI (fun W (hW:Below wr.heap.size wr W)=>Jg8 A2 _ c2 B2 m2 d2 t.r i W (Z.below hW) (by have:=z.few;rw[Tv.setTab_len] at this;omega) hi);obtain⟨r0,r1,r2,r3,r4,r5,r6⟩:=R;have Y:=(qaa wr.heap.size wr).alloc (qab _) (.cells #[x.nm,(x.st:Int),(x.ag.c:Int),(x.ag.hi:Int),.int .u64 x.ag.lo,(x.ag.mn:Int),(x.ag.mx:Int)] 142);obtain⟨w1,V⟩:=exE (wr.alloc (.cells #[x.nm,(x.st:Int),(x.ag.c:Int),(x.ag.hi:Int),.int .u64 x.ag.lo,(x.ag.mn:Int),(x.ag.mx:Int)] 142));have U:=Jbv.new wr x;rw[<- V] at Y U;have Hj:=zI V;have H:=zI Y;have Hk:=zI U;have y:=zI hX;have Hl:=zI c4;have Hm:=zI d;have G:=zI He;have Hn:=zI m.1;have HC:=zI O;clear z hX Z q L wand Y U V Hb N M c4 d m O;go_upto_region 7 with fail
    rw[<- Hj.out];have T:=(qaa w1.heap.size w1).drew;have o:=H.out.trans (T.mono H.out.size);have f:=zI (y.out.below o);have a:=zI (Hk.out.keep (Jab T none) (by simp));have Ho:=zI o;have dge:decide (t.r.from_ i<=x.st)=true:=qaj Hn.out;clear T o r0 r1 r2 r3 r4 r5 r6
    go_region_held3 (fun w'=>w'.cell? ⟨wr.heap.size,1,none⟩=some (.int .i64 x.st)/\w'.cell? ⟨g,0,none⟩=some (.int .i64 t.r.now)/\w'.cell? ⟨g,1,none⟩=some (.string t.r.nm)/\w'.cell? ⟨g,2,none⟩=some (.slice A2 t.tabs.length c2)/\w'.cell? ⟨g,3,none⟩=some (.slice B2 m2 d2)/\TLd wr w' x)
     (first
       | exact⟨a.out.c1,f.out.at_ 0 rfl,f.out.at_ 1 rfl,f.out.at_ 2 rfl,f.out.at_ 3 rfl,⟨a.out,Ho.out⟩⟩
       | (go_split_ands
          have u:=TLd.next (by assumption) Hp;exact⟨u.box.c1,(y.out.below u.bel).at_ 0 rfl,(y.out.below u.bel).at_ 1 rfl,(y.out.below u.bel).at_ 2 rfl,(y.out.below u.bel).at_ 3 rfl,u⟩))
     ((go_at_call 108;go_split_ands;refine(Hi.out _ (TLd.bel (by assumption))).mono ?_;rintro e w2 ⟨rfl,Hp⟩))
    have u:TLd wr w2 x:=by go_split_ands;assumption
    have HS:=zI u;obtain⟨x0,x1,x2,x3,x4,x5,x6⟩:=u.box;have c4:=(u.bel.cell (p:=⟨g,4,none⟩) y.out.lt).trans Hl.out;have cp:=(u.bel.cell (p:=⟨b',off'+i,none⟩) G.out).trans Hm.out;clear u;have Hx:(k:Int)<=1000000:=(by omega);have Hy:(0:Int)<=(i:Int):=(by omega);have Hz:(i:Int)<(t.tabs.length:Int):=(by omega);have Hq:=zI (HS.out.bel.drew);have H0:b'<w2.heap.size:=qar G.out HS.out.bel.size;have H9:g<w2.heap.size:=qar y.out.lt HS.out.bel.size;have Ka:wr.heap.size<w2.heap.size:=by have:=qba _ _ x0;simpa using this
    go_upto_region 8 with fail
    go_region_with ((go_at_call 124;refine(Hf.out _ Hq.out).mono ?_;rintro e w5 ⟨rfl,E,D⟩))
    all_goals
     have Hr:=zI E;have Hs:=zI (HC.out.trans D (fun _ x=> .inl x));clear E D;go_wp2_with fail
     go_roundw
     case rel=>exact⟨k+1,by omega,by go_num,by go_num,Hr.out,Hs.out⟩
     case measure=>simp[intOf];omega
  · have Ht:k=n:=by omega
    subst Ht;have Hu:=zI (show l.take k=l from qap (by rw[P.out];exact qab _));rw[Hu.out] at z;have Hv:=zI z;have HC:=zI O;clear z O;go_wp2_with fail
    go_ret;exact⟨rfl,Hv.out,HC.out⟩
def Rch.rec_ (r:Rch) (i:Nat) (s:Smp):Rc:=⟨s.nm,r.start (i:Int) s.tm,ofL [s.vl]⟩
noncomputable def Tv.putTo (t:Tv) (s:Smp):Nat ->Tv
 | 0=>t
 | k+1=>if t.r.has (k:Int) s.tm=true then (t.putTo s k).setTab k (addL (t.r.ev k) ((t.putTo s k).tab k) [t.r.rec_ k s]) else t.putTo s k
noncomputable def Tv.put1 (t:Tv) (s:Smp):Tv:=t.putTo s t.tabs.length
noncomputable def Tv.put (t:Tv) (l:List Smp):Tv:=l.foldl Tv.put1 t
theorem Tv.putTo_r(t:Tv)(s:Smp):∀k,(t.putTo s k).r=t.r
 | 0=>rfl
 | k+1=>by
   simp only[Tv.putTo];split
   · exact Tv.putTo_r t s k
   · exact Tv.putTo_r t s k
theorem Tv.putTo_len(t:Tv)(s:Smp):∀k,(t.putTo s k).tabs.length=t.tabs.length
 | 0=>rfl
 | k+1=>by
   simp only[Tv.putTo];split
   · rw[Tv.setTab_len];exact Tv.putTo_len t s k
   · exact Tv.putTo_len t s k
theorem Tv.put_r(t:Tv)(l:List Smp):(t.put l).r=t.r:=by
 induction l generalizing t with
 | nil=>rfl
 | cons a r ih=>show(Tv.put (t.put1 a) r).r=t.r;rw[ih];exact t.putTo_r a _
theorem Tv.put_len(t:Tv)(l:List Smp):(t.put l).tabs.length=t.tabs.length:=by
 induction l generalizing t with
 | nil=>rfl
 | cons a r ih=>show(Tv.put (t.put1 a) r).tabs.length=_;rw[ih];exact t.putTo_len a _
theorem Tv.putTo_few{t:Tv}{s:Smp}{N:Nat}(h:∀i,i<t.tabs.length ->(t.tab i).length<=N):∀k,∀i,i<t.tabs.length ->((t.putTo s k).tab i).length<=N+1/\(k<=i ->((t.putTo s k).tab i).length<=N)
 | 0,i,hi=>⟨by have:=h i hi;show(t.tab i).length<=_;omega,fun _=>h i hi⟩
 | k + 1,i,hi=>by
   have ih:=Tv.putTo_few (s:=s) h k i hi;simp only[Tv.putTo];split
   · by_cases e:i=k
     · subst e
       rw[Tv.setTab_same (by rw[Tv.putTo_len];exact hi)];have:=Jjr (ev:=t.r.ev i) (l:=(t.putTo s i).tab i) (rs:=[t.r.rec_ i s]);have:=ih.2 (qab _);simp at*;omega
     · rw[Tv.setTab_other e]
       exact⟨ih.1,fun hk=>ih.2 (by omega)⟩
   · exact⟨ih.1,fun hk=>ih.2 (by omega)⟩
theorem Tv.put_few{t:Tv}{N:Nat}(h:∀i,i<t.tabs.length ->(t.tab i).length<=N)(l:List Smp):∀i,i<t.tabs.length ->((t.put l).tab i).length<=N+l.length:=by
 induction l generalizing t N with
 | nil=>exact h
 | cons a r ih=>
   intro i y
   have:=ih (t:=t.put1 a) (N:=N+1) (fun j hj=>by
    have z:j<t.tabs.length:=by rw[<- t.putTo_len a t.tabs.length];exact hj
    exact(Tv.putTo_few h _ j z).1) i (by show i<(t.putTo a _).tabs.length;rw[Tv.putTo_len];exact y)
   show((Tv.put (t.put1 a) r).tab i).length<=_;rw[qa3];omega
theorem J4t(r:Rch)(i:Nat){tm:Int}(h0:0<=tm)(h1:tm<=9223372036854775807):(Lit.int .i64 (r.start (i:Int) tm)).wf=true:=by
 refine Jcd ?_;unfold Rch.start;split
 · unfold flrE
   split
   · omega
   · next hh=>have:=Jkl h0 (show 1<=((r.ts[(i:Int).toNat]?).map Ti.ev |>.getD 0) by omega);omega
 · omega
theorem J4u{w:World}{g:Nat}{v:Int}(h:w.cell? ⟨g,0,none⟩=some (.int .i64 v))(hlt:g<w.heap.size)(hv: -9223372036854775808<=v/\v<=9223372036854775807):Ints w .i64 (some ⟨g,0,none⟩) 1 [v]:=
 ⟨⟨fun _=>⟨g,0,rfl,hlt,fun j u hu=>by
  have y:j=0:=by have:=(qbs.1 hu).1;simp at this;omega
  subst y
  simpa[h] using hu⟩⟩,rfl,by decide,fun z hz=>by rw[qa1.1 hz];exact Jcd hv⟩
theorem J9v{v:Int}(h: -9223372036854775808<=v/\v<=9223372036854775807):(ofL [v]).Ok:=(Ag.Fit.of (fun z hz=>by rw[qa1.1 hz];exact Jcd h)).ok
structure TPu (wq w:World) (F:Nat ->Prop) (g wb:Nat) (x:Smp) (t:Tv) (vL:Value):Prop where
 at_:Jag wq F g t
 chg:Chg F w wq
 box:Bx wq wb 85 #[x.nm,(x.tm:Int),(x.vl:Int)]
 row:wq.cell? ⟨g,4,none⟩=some vL
theorem TPu.below{wq w w':World}{F:Nat ->Prop}{g wb:Nat}{x:Smp}{t:Tv}{vL:Value}(h:TPu wq w F g wb x t vL)(hb:Below wq.heap.size wq w'):TPu w' w F g wb x t vL:=
 ⟨h.at_.below hb,h.chg.then_below hb,h.box.below hb,(hb.cell (p:=⟨g,4,none⟩) (h.at_.ins _ h.at_.g)).trans h.row⟩
theorem TPu.add{wq w w1 w':World}{F:Nat ->Prop}{g wb gm:Nat}{x:Smp}{t t':Tv}{vL:Value}(h:TPu wq w F g wb x t vL)(hb:Below wq.heap.size wq w1)(hg:w1.grownBy w' (some gm))(hne:wb≠gm)(hw:Jag w' F g t'/\Chg F wq w'/\w'.heap[g]? =wq.heap[g]?):TPu w' w F g wb x t' vL:=
 ⟨hw.1,h.chg.trans hw.2.1 (fun _ hb=> .inl hb),(h.box.below hb).grown hg (by simpa using hne),(qbk (w:=wq) (a:=⟨g,4,none⟩) hw.2.2).trans h.row⟩
theorem J75{w:World}{b:Nat}{T:TypeId}{r:Rc}(h:Bx w b T r.cells.toArray)(hnm:r.nm.size<=maxLen)(hst:(Lit.int .i64 r.st).wf=true)(hok:r.ag.Ok):Rcs w (some ⟨b,0,none⟩) 1 [r]:=by
 refine⟨⟨fun _=>⟨b,0,rfl,h.lt,fun j u hu=> ?_⟩⟩,rfl,by decide,fun z hz=> ?_,fun z hz=> ?_,fun z hz=> ?_⟩
 · refine h.at_ (0+j) ?_
   rw[qa7]
   simpa using hu
 all_goals rw[qa1.1 hz];assumption
structure PuS (wr w':World) (x:Smp):Prop where
 box:Bx w' wr.heap.size 85 #[x.nm,(x.tm:Int),(x.vl:Int)]
 bel:Below wr.heap.size wr w'
theorem PuS.next{wr w1 w':World}{x:Smp}(h:PuS wr w1 x)(hb:Below w1.heap.size w1 w'):PuS wr w' x:=⟨h.box.below hb,h.bel.trans (hb.mono h.bel.size)⟩
theorem Jzq{F : Nat ->Prop}{g:Nat}{t:Tv}{A:Option Addr}{n c:Nat}{l:List Smp}(w:World)(h:Jag w F g t)(h1:1<=t.tabs.length)(hl:Smps w A n l)(hA:AIn (fun b=> ¬ F b) A)(hn:1<=n/\n<=8)(hfew:∀i,i<t.tabs.length ->(t.tab i).length<=900000)(hg:∀s∈l,t.r.Gets s)(hev:∀i,i<t.tabs.length -> -9223372036854775808<=t.r.ev i/\t.r.ev i<=9223372036854775807):
  Cs 58 #[g,.slice A n c] w fun e w'=>e= .returned (0:Int)/\Jag w' F g (t.put l)/\Chg F w w':=by
 have Kd:=zI (Jgo w h h1);have HT:=zI h;have HL:=zI hl;have Hg:=zI hl.len;have HA:=zI hA;have HG:=zI hg;have Ke:=zI hev;have Kf:=zI hfew;have h3:=h.few;have KM:=hn.1;have KN:=hn.2;have d1:((n:Int)==0)=false:=by rw[qat];omega
 have d2:decide ((8:Int)<(n:Int))=false:=qae (by omega);have Kg:=zI (show ∀W (x:Smp),x∈l ->∀A2 c2 B2 m2 d2,Jem W A2 t.tabs.length B2 m2 t.r ->Cs 122 #[rchV t.r.now t.r.nm A2 t.tabs.length c2 B2 m2 d2,.agg #[x.nm,(x.tm:Int),(x.vl:Int)]] W (RB W (0:Int)) from fun W x H A2 c2 B2 m2 d2 hR=>J4q A2 _ c2 B2 m2 d2 t.r x W hR (by omega) h1 (hg x H));clear h hl hA hg hev hn hfew;go_enter Tryz.func58,Tryz.ntmps58;go_wp2_with fail
 refine Kd.out.mono ?_;rintro e w1 ⟨rfl,hw⟩;subst hw;go_wp2_with fail
 go_loopw [28] (fun j wr=>∃k:Nat,k<=n/\j= .int .i64 (k:Int)/\Below w.heap.size w wr) (fun j _=>n - (intOf j).toNat)
 case atStart=>exact⟨0,qaq _,rfl,qaa _ _⟩
 case round =>
  obtain⟨k,hk,rfl,hb⟩:=hrel;by_cases S:k<n
  · have K:k<l.length:=by rw[Hg.out];exact S
    obtain⟨b,off,rfl,Kh,R⟩:=(HL.out.below hb).get K;obtain⟨A2,c2,B2,m2,d2,L2,cl2,ga2,gm2,hX,Y,_⟩:=(HT.out.below hb).tabs;obtain⟨x,H⟩:=exE (l[k]);have Ki:=zI (fun W (hW:Below wr.heap.size wr W)=>Kg.out W x (by rw[H];exact qan K) A2 c2 B2 m2 d2 (Y.below hW));rw[<- H] at R;have v:=(qaa wr.heap.size wr).alloc (qab _) (.cells #[x.nm,(x.tm:Int),(x.vl:Int)] 85);obtain⟨w1,m⟩:=exE (wr.alloc (.cells #[x.nm,(x.tm:Int),(x.vl:Int)] 85));have o:=Bx.new wr 85 #[x.nm,(x.tm:Int),(x.vl:Int)];rw[<- m] at v o;have Hh:=zI (show PuS wr w1 x from⟨o,v⟩);have P:=zI (Hh.out.next (qaa _ _).drew);have G:=zI m;have u:=zI hX;have p:=zI (hX.below P.out.bel);have HB:=zI hb;obtain⟨r0,r1,r2⟩:=R;clear H v o m hX Y hb;go_upto_region 8 with fail
    rw[<- G.out]
    go_region_held3 (fun w'=>w'.cell? ⟨g,0,none⟩=some (.int .i64 t.r.now)/\w'.cell? ⟨g,1,none⟩=some (.string t.r.nm)/\w'.cell? ⟨g,2,none⟩=some (.slice A2 t.tabs.length c2)/\w'.cell? ⟨g,3,none⟩=some (.slice B2 m2 d2)/\w'.cell? ⟨wr.heap.size,0,none⟩=some (.string x.nm)/\w'.cell? ⟨wr.heap.size,1,none⟩=some (.int .i64 x.tm)/\w'.cell? ⟨wr.heap.size,2,none⟩=some (.int .i64 x.vl)/\PuS wr w' x)
     (first
       | exact⟨p.out.at_ 0 rfl,p.out.at_ 1 rfl,p.out.at_ 2 rfl,p.out.at_ 3 rfl,P.out.box.at_ 0 rfl,P.out.box.at_ 1 rfl,P.out.box.at_ 2 rfl,P.out⟩
       | (go_split_ands
          have z:=PuS.next (by assumption) Kj;exact⟨(u.out.below z.bel).at_ 0 rfl,(u.out.below z.bel).at_ 1 rfl,(u.out.below z.bel).at_ 2 rfl,(u.out.below z.bel).at_ 3 rfl,z.box.at_ 0 rfl,z.box.at_ 1 rfl,z.box.at_ 2 rfl,z⟩))
     ((go_at_call 122;go_split_ands;refine(Ki.out _ (PuS.bel (by assumption))).mono ?_;rintro e w2 ⟨rfl,Kj⟩))
    have z:PuS wr w2 x:=by go_split_ands;assumption
    have Hq:=zI (HB.out.trans (z.bel.mono HB.out.size));clear z r0 r1 r2;go_wp2_with fail
    go_roundw
    case rel=>exact⟨k+1,by omega,by go_num,Hq.out⟩
    case measure=>simp[intOf];omega
  · obtain ⟨wo, Hr⟩:∃wo:World,wo=wr:=⟨_,rfl⟩
    rw[<- Hr] at hb ⊢;have Kk:=zI (HT.out.below hb);have Kl:=zI hb;clear Hr hb;go_wp2_with fail
    go_loopw [44] (fun j wr=>∃k:Nat,k<=n/\j= .int .i64 (k:Int)/\Jag wr F g (t.put (l.take k))/\Chg F w wr) (fun j _=>n - (intOf j).toNat)
    case atStart=>exact⟨0,qaq _,rfl,Kk.out,Chg.of_below Kl.out⟩
    case round =>
     obtain⟨k2,KO,rfl,f,hC⟩:=hrel;by_cases S:k2<n
     · have K : k2<l.length:=by rw[Hg.out];exact S
       obtain⟨b,off,rfl,Kh,R⟩:=(HL.out.chg hC HA.out).get K;obtain⟨x,H⟩:=exE (l[k2]);have V:=zI (show t.r.Gets x from by rw[H];exact HG.out _ (qan K));have Km:=zI (show(t.put (l.take k2)).put1 x=t.put (l.take (k2+1)) from by rw[H,qam K];unfold Tv.put;rw[qb8];rfl)
       have Hi:=zI (show ∀i,i<t.tabs.length ->((t.put (l.take k2)).tab i).length<=900010 from fun i hi=>by
        have:=Tv.put_few (t:=t) (N:=900000) (Kf.out) (l.take k2) i hi;rw[qao] at this;omega)
       have Hj:=zI (show(t.put (l.take k2)).r=t.r from t.put_r _);have Kn:=zI (show(t.put (l.take k2)).tabs.length=t.tabs.length from t.put_len _);rw[<- H] at R;generalize t.put (l.take k2)=tk at*;obtain⟨N,hN⟩:=exE t.tabs.length;have HN:=zI hN;have KP:N<=1000:=(by omega);have KQ:1<=N:=(by omega);have Hk:tk.tabs.length=N:=(by rw[Kn.out,hN]);have Hs:∀i,i<N ->(tk.tab i).length<=900010:=fun i hi=>Hi.out i (by rw[<- hN];exact hi);have Hi:=zI Hs;clear hN Hs;have v:=(qaa wr.heap.size wr).alloc (qab _) (.cells #[x.nm,(x.tm:Int),(x.vl:Int)] 85);obtain⟨w1,m⟩:=exE (wr.alloc (.cells #[x.nm,(x.tm:Int),(x.vl:Int)] 85));have o:=Bx.new wr 85 #[x.nm,(x.tm:Int),(x.vl:Int)];rw[<- m] at v o;obtain⟨wb,E⟩:=exE wr.heap.size;have Ko:=zI (show ¬ F wb from by rw[E];exact fun y=>Nat.lt_irrefl _ (f.ins _ y));have G:=zI m;have Ht:=zI (f.below v);have Hu:=zI (hC.then_below v);have Kp:=zI E;rw[<- E] at o;have Hv:=zI o;obtain⟨b0,off0,cl0,_,_,c40,_⟩:=(f.below v).focus 0 (by omega);rw[Hk] at c40;obtain⟨r0,r1,r2⟩:=R;clear H v o m E f hC;go_upto_region 15 with fail
       rw[<- G.out,<- Kp.out];have C40:=zI c40;go_wp2_with fail
       obtain⟨wi,Hw⟩:=exE w1;rw[<- Hw] at Ht Hu Hv C40 ⊢;clear c40 r0 r1 r2 G Hw;go_loopw [53] (fun j wq=>∃q:Nat,q<=N/\j= .int .i64 (q:Int)/\TPu wq w F g wb x (tk.putTo x q) (.slice (some ⟨b0,off0,none⟩) N cl0)) (fun j _=>N - (intOf j).toNat)
       case atStart=>exact⟨0,qaq _,rfl,Ht.out,Hu.out,Hv.out,C40.out⟩
       case round =>
        obtain⟨q,hq,rfl,d,D,C,O⟩:=hrel;by_cases Kq:q<N
        · have Hc :(tk.putTo x q).tabs.length=N:=by rw[Tv.putTo_len,Hk]
          have Hx:(tk.putTo x q).r=t.r:=(by rw[Tv.putTo_r,Hj.out]);obtain⟨b2,off2,cl2,ga,gm,c42,Hd,Hy,M,He,wand⟩:=d.focus q (by omega);rw[Hc] at c42;have Kr:=O.symm.trans c42;cases Kr
          obtain⟨A2,c2,B2,m2,d2,L2,cl3,_,_,hX,Y,_⟩:=d.tabs;rw[Hc,Hx] at hX Y;rw[Hx] at M wand
          have Ks:=zI (show((tk.putTo x q).tab q).length+1<1000000 from by
           have:=(Tv.putTo_few (t:=tk) (s:=x) (N:=900010) (fun i hi=>Hi.out i (by omega)) q q (by omega)).1;omega)
          have Kt:=zI (fun W (hW:Below wr.heap.size wr W)=>Jyb A2 N c2 B2 m2 d2 t.r (q:Int) x.tm W (Y.below hW) (by omega) V.out.ok.tm);have Ku:=zI (J4t t.r q V.out.tm.1 V.out.ok.tm.2);have Kv:=zI (J9v V.out.ok.vl);have Kw:=zI (fun W (g0:Nat) (hg:W.cell? ⟨g0,0,none⟩=some (.int .i64 x.vl)) (S:g0<W.heap.size)=>J9f (some ⟨g0,0,none⟩) 1 1 [x.vl] W (J4u hg S V.out.ok.vl))
          have Hh:=zI (show t.r.has (q:Int) x.tm=true ->tk.putTo x (q+1)=(tk.putTo x q).setTab q (addL (t.r.ev q) ((tk.putTo x q).tab q) [⟨x.nm,t.r.start (q:Int) x.tm,ofL [x.vl]⟩]) from fun hh=>by
           simp only[Tv.putTo];rw[Hj.out,qa0 hh];rfl)
          have Kx:=zI (show t.r.has (q:Int) x.tm=false ->tk.putTo x (q+1)=tk.putTo x q from fun hh=>by
           simp only[Tv.putTo];rw[Hj.out,qay (by rw[hh];decide)])
          generalize t.r.start (q:Int) x.tm=at_ at*;generalize t.r.has (q:Int) x.tm=hs at*;generalize ofL [x.vl]=a at*;have u:=zI hX;have B:=zI C;have hJ:=zI d;have Ha:=zI D;have KL:=zI c42;have KR:=zI Hy;have Hq:=zI Hd;have L:=(qaa wr.heap.size wr).drew;have U:=zI L;have p:=zI (hX.below L);have Hz:=zI (C.below L);have Ky:=zI M;have Kz:=zI (show wb≠gm from fun e=>Ko.out (by rw[e];exact He));have KC:=zI (Ke.out q (by rw[<- HN.out];exact Kq));have KD:=zI wand;have KE:=zI O;clear hX Y M He C d D c42 Hd L wand;have H0:=zI (Kt.out _ U.out);go_upto_region 18 with fail
          go_region_held3 (fun w'=>w'.cell? ⟨g,0,none⟩=some (.int .i64 t.r.now)/\w'.cell? ⟨g,1,none⟩=some (.string t.r.nm)/\w'.cell? ⟨g,2,none⟩=some (.slice A2 N c2)/\w'.cell? ⟨g,3,none⟩=some (.slice B2 m2 d2)/\w'.cell? ⟨wb,1,none⟩=some (.int .i64 x.tm)/\Below wr.heap.size wr w')
           (first
             | exact⟨p.out.at_ 0 rfl,p.out.at_ 1 rfl,p.out.at_ 2 rfl,p.out.at_ 3 rfl,Hz.out.at_ 1 rfl,U.out⟩
             | (have z:=U.out.trans (Hb.mono U.out.size)
                exact⟨(u.out.below z).at_ 0 rfl,(u.out.below z).at_ 1 rfl,(u.out.below z).at_ 2 rfl,(u.out.below z).at_ 3 rfl,(B.out.below z).at_ 1 rfl,z⟩))
           ((go_at_call 123;refine H0.out.mono ?_;rintro e w3 ⟨rfl,Hb⟩))
          have T:=U.out.trans (Hb.mono U.out.size);cases hs with
          | false=>
            have Hl:=zI (show TPu w3 w F g wb x (tk.putTo x (q+1)) (.slice (some ⟨b0,off0,none⟩) N cl0) from by
             rw[Kx.out rfl];exact TPu.below ⟨hJ.out,Ha.out,B.out,O⟩ T)
            clear O T Hb;go_wp2_with fail
            go_roundw
            case rel=>exact⟨q+1,by omega,by go_num,Hl.out⟩
            case measure=>simp[intOf];omega
          | true =>
            have Hl:=zI (Hh.out rfl);have Hf:=zI (B.out.below T);have L:=(qaa w3.heap.size w3).drew;have Z:=zI (Hf.out.below (qaa w3.heap.size w3).drew);have Hm:Below w3.heap.size w3 (w3.alloc (.cells #[(x.vl:Int)] 3)).drew:=((qaa w3.heap.size w3).alloc (qab _) _).drew;have J:=zI (Hf.out.below Hm);have Hn:=zI (T.trans (Hm.mono T.size));have H9:=zI (Kw.out _ _ ((Bx.new w3 3 #[(x.vl:Int)]).drew.at_ 0 rfl) (Bx.new w3 3 #[(x.vl:Int)]).drew.lt);clear T Hb Hm;go_upto_region 20 with fail
            go_region_held3 (fun w'=>w'.cell? ⟨wb,0,none⟩=some (.string x.nm)/\w'.cell? ⟨wb,2,none⟩=some (.int .i64 x.vl)/\Bx w' wb 85 #[x.nm,(x.tm:Int),(x.vl:Int)])
             (first
               | exact⟨Z.out.at_ 0 rfl,Z.out.at_ 2 rfl,Z.out⟩
               | exact⟨J.out.at_ 0 rfl,J.out.at_ 2 rfl,J.out⟩
               | (have z:=J.out.below I
                  exact⟨z.at_ 0 rfl,z.at_ 2 rfl,z⟩)
               | (have z:=(J.out.below I).alloc (.cells #[x.nm,(at_:Int),(a.c:Int),(a.hi:Int),.int .u64 a.lo,(a.mn:Int),(a.mx:Int)] 142)
                  exact⟨z.at_ 0 rfl,z.at_ 2 rfl,z⟩)
               | (have z:=Ka.out.box
                  exact⟨z.at_ 0 rfl,z.at_ 2 rfl,z⟩))
             (first
               | (go_at_call 125;refine H9.out.mono ?_;rintro e w6 ⟨rfl,I⟩)
               | (go_at_call 124
                  have Ho:=zI ((Hn.out.trans (I.mono Hn.out.size)).alloc (qax Hn.out.size I.size) (.cells #[x.nm,(at_:Int),(a.c:Int),(a.hi:Int),.int .u64 a.lo,(a.mn:Int),(a.mx:Int)] 142));have KG:=zI (J75 (r:=⟨x.nm,at_,a⟩) (Bx.new w6 142 #[x.nm,(at_:Int),(a.c:Int),(a.hi:Int),.int .u64 a.lo,(a.mn:Int),(a.mx:Int)]) V.out.ok.nm Ku.out Kv.out);have KH:=zI (Jt5 (c:=1) _ (Ky.out.below Ho.out) KG.out KC.out Ks.out);refine KH.out.mono ?_;rintro e w8 ⟨rfl,Kb,Hp⟩;have Ka:=zI (TPu.add ⟨hJ.out,Ha.out,B.out,KE.out⟩ Ho.out Hp Kz.out (KD.out _ _ _ Ho.out Hp Kb))))
            have KI:=zI (show TPu w8 w F g wb x (tk.putTo x (q+1)) (.slice (some ⟨b0,off0,none⟩) N cl0) from by rw[Hl.out];exact Ka.out);clear Kb Hp I;go_wp2_with fail
            go_roundw
            case rel=>exact⟨q+1,by omega,by go_num,KI.out⟩
            case measure=>simp[intOf];omega
        · have KJ:q=N:=by omega
          have HE:=zI (show tk.putTo x q=t.put (l.take (k2+1)) from by rw[<- Km.out,KJ,<- Hk];rfl);rw[HE.out] at d;have hJ:=zI d;have Ha:=zI D;clear d D C O;go_wp2_with fail
          go_roundw
          case rel=>exact⟨k2+1,by omega,by go_num,hJ.out,Ha.out⟩
          case measure=>simp[intOf];omega
     · have KS:k2=n:=by omega
       have Kc:=zI (show l.take k2=l from qap (by rw[Hg.out];omega));rw[Kc.out] at f;have KK:=zI f;have HC:=zI hC;clear f hC;go_wp2_with fail
       go_ret;exact⟨rfl,KK.out,HC.out⟩
structure Tv.Few (t:Tv):Prop where
 few:∀i,i<t.tabs.length ->(t.tab i).length<1000000
 need:∀i,i<t.tabs.length ->0<=Jix (t.r.sh i) (t.tab i)/\Jix (t.r.sh i) (t.tab i)<=1000000
theorem Jf7{t:Tv}(h:t.Few):∀k,k<=t.tabs.length ->0<=Jbs t k/\Jbs t k<=1000000*k
 | 0,_=>by simp[Jbs]
 | k+1,hk=>by
   have:=Jf7 h k (by omega);have:=h.need k (by omega);simp only[Jbs];omega
theorem Jjz{F:Nat ->Prop}{g:Nat}{t:Tv}(w:World)(h:Jag w F g t)(h1:1<=t.tabs.length)(hf:t.Few):
  Cs 32 #[g] w (RB w (t.need:Int)):=by
 obtain⟨A,c,B,m,d,L,cl,ga,gm,f,b,Z⟩:=h.tabs;have I:=zI (Jgo w h h1);have H:=h.few;obtain⟨n,Y⟩:=exE t.tabs.length;have W:=zI (show t.need=Jbs t n from by rw[Y];rfl);rw[<- Y] at f b Z H;have o:=zI (show ∀k,k<=n ->0<=Jbs t k/\Jbs t k<=1000000*k from fun k V=>Jf7 hf k (by omega));have U:=zI (show ∀k,k<n ->(t.tab k).length<1000000 from fun k V=>hf.few k (by omega));have G:=zI f;have K:=zI b;have J:=zI Z;have T:=zI b.ts.len;have s4:=f.at_ 4 (v:= .slice L n cl) rfl;clear h h1 f b Z Y hf;go_enter Tryz.func32,Tryz.ntmps32;go_wp2_with fail
 refine I.out.mono ?_;rintro e w1 ⟨rfl,E⟩;subst E;go_wp2_with fail
 go_loopw [3,13] (fun s i wr=>∃k:Nat,k<=n/\i= .int .i64 (k:Int)/\s= .int .i64 (Jbs t k)/\Below w.heap.size w wr) (fun _ i _=>n - (intOf i).toNat)
 case atStart=>exact⟨0,qaq _,rfl,rfl,qaa _ _⟩
 case round=>
  obtain⟨k,V,rfl,rfl,q⟩:=hrel;by_cases u:k<n
  · obtain⟨bl,ol,rfl,_,D⟩:=Jt7 (J.out.row.below q) u
    have KA:k<t.r.ts.length:=by rw[T.out];exact u
    obtain⟨ba,oa,rfl,_,_,_,_,t3⟩:=(K.out.ts.below q).get KA;have l:=(K.out.ts.ok _ (qan KA)).sh;have S:=zI (Jyw (t.r.ts[k]).sh ((J.out.tab k u).below q) (U.out k u) l);have R:=zI (show Jbs t k+Jix (t.r.ts[k]).sh (t.tab k)=Jbs t (k+1) from by rw[<- Rch.sh_at KA];rfl);have b1:=o.out k V;have b2:=o.out (k+1) u;rw[<- R.out] at b2;have p2:=(G.out.below q).at_ 2 rfl;have p:Jbs t (k+1)=Jbs t k+Jix (t.r.ts[k]).sh (t.tab k):=R.out.symm;obtain⟨z,P⟩:=exE (Jbs t (k+1));rw[<- P] at p;have C:=zI P;have O:=zI p;generalize Jix (t.r.ts[k]'KA).sh (t.tab k)=y at*;generalize (t.r.ts[k]'KA).sh=sh at*;generalize Jbs t k=x at*;have a:=zI q;clear q P p l R;go_wp2_with fail
    refine S.out.mono ?_;rintro e w2 ⟨rfl,j⟩;have N:=zI (a.out.trans (j.mono a.out.size));clear j;go_wp2_with fail
    go_roundw
    case rel=>exact⟨k+1,by omega,by go_num,by rw[<- C.out,O.out],N.out⟩
    case measure=>simp[intOf];omega
  · have M:k=n:=by omega
    subst M;have a:=zI q;clear q;go_wp2_with fail
    go_ret;exact⟨by rw[W.out];rfl,a.out⟩
