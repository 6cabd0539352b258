/- Laws that the walk of the last text wants. -/
import Derived.Test.YtglmhddbhhcjdaaGreatDoorC25
import Derived.Test.YtglmhddbhhcjdaaGreatDoorC28
set_option maxRecDepth 100000
set_option linter.unusedSimpArgs false
set_option maxHeartbeats 4000000
namespace Go.Proofs.YtglmhddbhhcjdaaGreatDoor
open Go.RowKit
def usOf (ps:List Pm):List Int:=ps.foldl (fun us p=>Led.insAll us p.e.bl) []
def Jcf (ps:List Pm):Option (List Int):=if ps=[] then none else some (usOf ps)
def mapOf (ps:List Pm):Nat ->Nat ->Option PRaw:=ps.foldl (fun f p=>setP f p.e.tier p.e.shard p.raw) (fun _ _=>none)
theorem Jih(ps:List Pm)(p:Pm):usOf (ps++[p])=Led.insAll (usOf ps) p.e.bl:=by simp[usOf]
theorem Js0(ps:List Pm)(p:Pm):Jcf (ps++[p])=some (Led.insAll ((Jcf ps).getD []) p.e.bl):=by
 unfold Jcf;rw[qay (by simp),Jih];by_cases h:ps=[]
 · subst h;rfl
 · rw[qay h];rfl
theorem Jwv(ps:List Pm)(p:Pm):mapOf (ps++[p])=setP (mapOf ps) p.e.tier p.e.shard p.raw:=by simp[mapOf]
theorem Jii(ps:List Pm)(z:Int):z∈usOf ps↔∃p∈ps,z∈p.e.bl:=by
 obtain⟨qs,rfl⟩:∃qs:List Pm,ps=qs.reverse:=⟨ps.reverse,by simp⟩
 induction qs with
 | nil=>simp[usOf]
 | cons p r ih=>
   rw[qby,Jih,Led.mem_insAll,ih];constructor
   · rintro(⟨x,y,w⟩ | w)
     · exact⟨x,List.mem_append_left _ y,w⟩
     · exact⟨p,by simp,w⟩
   · rintro⟨x,y,w⟩
     rcases qbe.1 y with y | y
     · exact .inl ⟨x,y,w⟩
     · rw[qa1.1 y] at w;exact .inr w
structure Jij (D N:Nat) (ps:List Pm):Prop where
 tier:∀p∈ps,p.e.tier<5
 shard:∀p∈ps,p.e.shard<=7
 ne:∀p∈ps,p.e.bl≠[]
 bl:∀p∈ps,∀z∈p.e.bl,(D:Int)<=z/\z<(N:Int)
 nodup:(ps.flatMap fun p=>p.e.bl).Nodup
theorem Jij.at_{D N:Nat}{ps:List Pm}(h:Jij D N ps){k:Nat}(hk:k<ps.length):(ps[k]).e.bl.Nodup/\∀z∈(ps[k]).e.bl,z∉usOf (ps.take k):=by
 have x:=h.nodup;rw[<- qa8 k ps,qbm hk,qav,qau] at x;have w:=qdm.1 x;refine⟨(qdm.1 w.2.1).1,fun z hz hu=> ?_⟩;obtain⟨p,v,y⟩:=(Jii _ _).1 hu;exact w.2.2 z (qcs.2 ⟨p,v,y⟩) z (List.mem_append_left _ hz) rfl
structure HdS (w wr:World) (FB:Nat ->Prop) (g mp bk k:Nat) (cs:Array Value) (f:Nat ->Nat ->Option PRaw) (D N:Nat) (us:List Int) (b:Option (List Int)):Prop where
 box:Bo wr g cs
 map:PMap wr mp k f
 book:Led.BookAt wr FB bk (D:Int) ((N - D:Nat):Int) us (Led.w3 none b none)
 chg:Chg (fun x=>x=g) w wr
 low:w.heap.size<=mp/\∀x,FB x ->w.heap.size<=x
 ne: ¬ FB mp
 tl:Tl g w wr
theorem J0t{F:Nat ->Prop}{g N C B D R gen id mp0 bk0 n c:Nat}{d:Addr}{lg:Option Addr}{bad:Int}{A:Option Addr}{ps:List Pm}(w:World)(hX:Bo w g (Jdm N C B D R d gen id mp0 bk0 lg bad))(hL:Jd3 N C B D R)(hP:Jgy w F A n ps)(hg: ¬ F g)(hok:Jij D N ps)(hn:n<=1000):
  Cs 134 #[g,.slice A n c] w fun e w'=>e= .returned (.tuple #[])/\∃mp bk FB,HdS w w' FB g mp bk n (Jdm N C B D R d gen id mp bk lg bad) (mapOf ps) D N (usOf ps) (Jcf ps)/\∀x,FB x ->x<w'.heap.size:=by
 have Kn:38<=D/\D<=N/\N<=4096:=by have:=hL.bd;have:=hL.n;omega
 have Ko:=zI Kn;have Hr:=zI hP;have Hs:=zI hP.len;have W:=zI hok;have KJ:=@run_makeMap Tryz.prog;have KK:=hX.lt;have Kp:=zI (show(N:Int) - (D:Int)=((N - D:Nat):Int) from by omega);have KL:IntKind.i64.wrap ((N:Int) - (D:Int))=(N:Int) - (D:Int):=qbd _ (by omega);obtain⟨mp,U⟩:=exE w.heap.size;obtain⟨w1,f⟩:=exE ((w.setCell ⟨g,10,none⟩ (.map (some w.heap.size))).alloc (.map #[] 0));have Ht:(w.setCell ⟨g,10,none⟩ (.map (some w.heap.size))).heap.size=w.heap.size:=by simp
 have Hu:Bo w1 g (Jdm N C B D R d gen id mp bk0 lg bad):=by rw[f,U];exact(hX.set 10 (.map (some w.heap.size))).alloc _
 have Hv:PMap w1 mp 0 (fun _ _=>none):=by
  have:=PMap.made (w.setCell ⟨g,10,none⟩ (.map (some w.heap.size)));rw[Ht] at this;rw[f,U];exact this
 have Hw:Chg (fun b=>b=g) w w1:=by
  rw[f];exact(Chg.set (F:=fun b=>b=g) w ⟨g,10,none⟩ (.map (some w.heap.size)) rfl).then_below ((qaa _ _).alloc (qab _) _)
 have Hx:=zI (show Tl g w w1 from by rw[f];exact(Tl.set g w 10 _ (by decide)).trans (Tl.of_below g ((qaa _ _).alloc (qab _) _)));have a10:=hX.at_ 10 (v:= .map (some mp0)) rfl;have f10:=hX.free 10;have V:=zI Hu;have r:=zI Hv;have Hy:=zI Hw;have Kq:=zI f;have Hz:=zI U;have Kr:=zI (Led.book_new (D:Int) ((N:Int) - (D:Int)) w1.drew (by omega) (by omega));clear hX hP hok U f Ht Hu Hv Hw;go_enter Tryz.func134,Tryz.ntmps134;go_upto_region 1 with fail
 rw[<- Kq.out];clear a10 f10;have H:=(qaa w1.heap.size w1).drew;have z0:=(V.out.below H).at_ 0 (v:= (N:Int)) rfl;have z5:=(V.out.below H).at_ 5 (v:= (D:Int)) rfl;clear H
 go_region_held3 (fun w'=>w'.cell? ⟨g,0,none⟩=some (.int .i64 (N:Int))/\w'.cell? ⟨g,5,none⟩=some (.int .i64 (D:Int)))
  (first
    | exact⟨z0,z5⟩
    | exact⟨q.at_ 0 rfl,q.at_ 5 rfl⟩
    | exact⟨(q.set 11 bk).at_ 0 rfl,(q.set 11 bk).at_ 5 rfl⟩)
  (first
    | (go_at_call 160
       refine Kr.out.mono ?_;rintro e w3 ⟨bk,rfl,G,E⟩;have q:=(V.out.drew).below E;have a11:=q.at_ 11 (v:= bk0) rfl;have f11:=q.free 11))
 go_split_ands;rw[Kp.out] at G;have KM:=Hy.out.size;have KG:=r.out.lt;have i:Below w1.heap.size w1 w3:=(qaa _ _).drew.trans (E.mono (by simp))
 have H0:=zI (show HdS w (w3.setCell ⟨g,11,none⟩ bk) (made w1.drew w3) g mp bk 0 (Jdm N C B D R d gen id mp bk lg bad) (fun _ _=>none) D N [] none from
  ⟨q.set 11 _,(r.out.below i).chg (Chg.set (F:=fun b=>b=g) w3 ⟨g,11,none⟩ _ rfl) (by have:=V.out.lt;have:=Hz.out;omega),
   G.chg (Chg.set (F:=fun b=>b=g) w3 ⟨g,11,none⟩ _ rfl) (fun b hb e=>by have:=hb.1;have:=V.out.lt;simp at*;omega),
   (Hy.out.then_below i).trans (Chg.set (F:=fun b=>b=g) w3 ⟨g,11,none⟩ _ rfl) (fun _ h=> .inl h),
   ⟨by have:=Hz.out;omega,fun b hb=>by have:=hb.1;simp at this;omega⟩,fun hb=>by have:=hb.1;simp at this;omega,(Hx.out.trans (Tl.of_below g i)).trans (Tl.set g w3 11 _ (by decide))⟩)
 have J:=zI (show ∀b,made w1.drew w3 b ->b<(w3.setCell ⟨g,11,none⟩ bk).heap.size from fun b hb=>by have:=hb.2;simp;omega);clear G E q i a11 f11 z0 z5;go_wp2_with fail
 obtain⟨w4,H9⟩:=exE (w3.setCell ⟨g,11,none⟩ bk);rw[<- H9] at H0 J ⊢;clear H9;go_loopw [32] (fun j wr=>∃ (k:Nat) (FB:Nat ->Prop),k<=n/\j= .int .i64 (k:Int)/\HdS w wr FB g mp bk k (Jdm N C B D R d gen id mp bk lg bad) (mapOf (ps.take k)) D N (usOf (ps.take k)) (Jcf (ps.take k))/\∀x,FB x ->x<wr.heap.size) (fun j _=>n - (intOf j).toNat)
 case atStart=>exact⟨0,_,qaq _,rfl,H0.out,J.out⟩
 case round=>
  obtain⟨k,FB,hk,rfl,p,hI⟩:=hrel;by_cases Ks:k<n
  · have K:k<ps.length:=by rw[Hs.out];exact Ks
    have Ka:=Hr.out.chg p.chg (fun b hb e=>hg (by rw[<- e];exact hb));obtain⟨b,off,rfl,KN,Kt⟩:=Ka.get K;have T:=zI (Hr.out.row _ (qan K));have Kb:=zI (W.out.tier _ (qan K));have Kc:=zI (W.out.shard _ (qan K));have hJ:=zI (W.out.ne _ (qan K));have Ha:=zI (W.out.bl _ (qan K));have Hb:=zI (W.out.at_ K);have Ku:=zI (show ps.take (k+1)=ps.take k++[ps[k]] from qam K);generalize ps[k]'K=x at*;have Hc:=zI (Jih (ps.take k) x);have Hd:=zI (Js0 (ps.take k) x);have r:=zI (Jwv (ps.take k) x);rw[<- Ku.out] at Hc Hd r;generalize usOf (ps.take k)=us at*;generalize Jcf (ps.take k)=lv at*;generalize mapOf (ps.take k)=mf at*;obtain⟨⟨id',tier,shard,bl⟩,l,A5,c5,A6,c6⟩:=x;obtain⟨r0,r1,r2,r3,r4,r5,r6⟩:=Kt;unfold Pm.raw at r0 r1 r2 r3 r4 r5 r6 r;dsimp only at r0 r1 r2 r3 r4 r5 r6 r T Kb Kc hJ Ha Hb Hc Hd;obtain⟨m,hm⟩:=exE bl.length;rw[<- hm] at r4 r5 r;have HM:=zI hm;obtain⟨m2,He⟩:=exE l.length;rw[<- He] at r6 r;have KO:=zI He;have Kv:tier<5:=Kb.out;have KP:shard<=7:=Kc.out;have S:=(qaa wr.heap.size wr).alloc (qab _) (.cells #[.int .u64 (id':Int),(tier:Int),(shard:Int),(0:Int),(m:Int),.slice (adr A5) m c5,.slice (adr A6) m2 c6] 316);have P:=Bx.new wr 316 #[.int .u64 (id':Int),(tier:Int),(shard:Int),(0:Int),(m:Int),.slice (adr A5) m c5,.slice (adr A6) m2 c6];obtain⟨gb,Hf⟩:=exE wr.heap.size;obtain⟨w5,Hg⟩:=exE (wr.alloc (.cells #[.int .u64 (id':Int),(tier:Int),(shard:Int),(0:Int),(m:Int),.slice (adr A5) m c5,.slice (adr A6) m2 c6] 316));rw[<- Hg] at S P;rw[<- Hf] at P;have Z:=S.trans ((qaa w5.heap.size w5).drew.mono S.size);have Hh:=p.box.below Z;have Kd:=p.map.below Z;have Ke:=p.book.below Z;have y:=P.drew;obtain⟨w6,KH,Kf,Y⟩:=Kd.store (t:=tier) (s:=shard) (by omega) (by omega) (by omega) ⟨(id':Int),(tier:Int),(shard:Int),0,(m:Int),A5,m,c5,A6,m2,c6⟩;have Kw:=zI Hf;have Kx:=zI Hg;have u:=p.low;have Hi:=p.ne;have KI:=p.map.lt;have Kg:=zI (Hh.grown Y (by simp;omega));have Kh:=zI (y.grown Y (by simp;omega));have Ky:=zI (Ke.chg (Chg.of_grown (F:=fun b=>b=mp) Y (fun b e=>by cases e;rfl)) (fun b hb e=>Hi (by rw[<- e];exact hb)));have Ki:=zI Kf;have Hj:=zI ((p.chg.then_below Z).trans (Chg.of_grown (F:=fun b=>b=mp) Y (fun b e=>by cases e;rfl)) (fun b e=> .inr (by rw[e];exact u.1)));have Kj:=zI ((p.tl.trans (Tl.of_below g Z)).trans (Tl.of_chg (Chg.of_grown (F:=fun b=>b=mp) Y (fun b e=>by cases e;rfl)) (fun e=>by have:=u.1;omega)));have y0:=y.at_ 1 (v:= (tier:Int)) rfl;have x10:=Hh.at_ 10 (v:= .map (some mp)) rfl;have y2:=y.at_ 2 (v:= (shard:Int)) rfl;have y3:=y.at_ 0 (v:= .int .u64 (id':Int)) rfl;have y4:=y.at_ 3 (v:= (0:Int)) rfl;have y5:=y.at_ 4 (v:= (m:Int)) rfl;have y6:=y.at_ 5 (v:= .slice (adr A5) m c5) rfl;have y7:=y.at_ 6 (v:= .slice (adr A6) m2 c6) rfl;have KQ:=zI p.chg;have KR:=zI (show w.heap.size<=wr.heap.size from p.chg.size);have Hk: ¬ FB g:=fun h=>by have:=u.2 g h;omega
    have I: ¬ FB gb:=fun h=>by have:=hI gb h;omega
    have Hl:=(T.out.bl.chg Hj.out (fun a e h=>hg (by rw[<- h];exact T.out.inA a e)));rw[<- hm] at Hl
    have Kk:AIn (fun x=> ¬ FB x) (adr A5):=fun a e h=>by
     have h0:bl.map (Value.int .i64)≠[]:=(by simpa using hJ.out);obtain⟨zb,zo,e2,Kz,_⟩:=T.out.bl.sl.at_ h0;rw[e2] at e;cases e
     have h8:w.heap.size<=zb:=u.2 zb h;have h9:zb<w.heap.size:=Kz;omega
    have Kl:=zI (J79 w6.drew (Kg.out.drew) (Ky.out.below (qaa _ _).drew) Hk (Hl.below (qaa _ _).drew) Kk hJ.out Hb.out.1 (fun z hz=>⟨(Ha.out z hz).1,(Ha.out z hz).2,Hb.out.2 z hz⟩) Ko.out.2.1 (c:=c5));have O:=zI (And.intro Hk I);have KC:=zI u;clear Hk I Hl Kk;clear p hI Ka S P Hf Hg Z Hh Kd Ke y hm He Kf Y u;go_upto_region 5 with fail
    rw[<- Kx.out,<- Kw.out];clear r0 r1 r2 r3 r4 r5 r6;go_region
    clear y0 y2 y3 y4 y5 y6 y7 x10;have M:=zI Kh.out.drew;go_upto_region 6 with fail
    go_region_held3 (fun w'=>w'.cell? ⟨gb,1,none⟩=some (.int .i64 (tier:Int))/\w'.cell? ⟨gb,5,none⟩=some (.slice (adr A5) m c5))
     (first
       | exact⟨M.out.at_ 1 rfl,M.out.at_ 5 rfl⟩
       | exact⟨(M.out.chg o O.out.2).at_ 1 rfl,(M.out.chg o O.out.2).at_ 5 rfl⟩)
     (first
       | (go_at_call 221
          refine(J4n tier _ Kv).mono ?_;rintro e w7 ⟨rfl,rfl⟩)
       | (go_at_call 220
          refine Kl.out.mono ?_;rintro e w8 ⟨rfl,⟨F',Hm,Hn⟩,o⟩))
    have L:=(qaa w6.heap.size w6).drew;have Km:=Hj.out.then_below L;have Ho:=KC.out;have KS:=Hj.out.size
    have Hp:=zI (show HdS w w8 F' g mp bk (k+1) (Jdm N C B D R d gen id mp bk lg bad) (mapOf (ps.take (k+1))) D N (usOf (ps.take (k+1))) (Jcf (ps.take (k+1))) from by
     rw[r.out,Hc.out,Hd.out];refine⟨(Kg.out.drew).chg o O.out.1,(Ki.out.below L).chg o Hi,Hm,Km.trans o (fun b hb=> .inr (Ho.2 b hb)),⟨Ho.1,fun b hb=> ?_⟩,fun hb=> ?_,(Kj.out.trans (Tl.of_below g L)).trans (Tl.of_chg o O.out.1)⟩
     · rcases Hn b hb with h | h
       · exact Ho.2 b h
       · have:=h.1;simp at this;omega
     · rcases Hn mp hb with h | h
       · exact Hi h
       · have:=h.1;have:=Ki.out.lt;simp at*;omega)
    have Hq:=zI (show ∀b,F' b ->b<w8.heap.size from fun b hb=>Hm.ins b hb);clear Hm Hn o L Km;go_split_ands;go_wp2_with fail
    go_roundw
    case rel=>exact⟨k+1,F',by omega,by go_num,Hp.out,Hq.out⟩
    case measure=>simp[intOf];omega
  · have KD:k=n:=by omega
    have KE:=zI (show ps.take k=ps from qap (by rw[Hs.out];omega));rw[KE.out] at p;subst KD;have Hp:=zI p;have Hq:=zI hI;clear p hI;go_wp2_with fail
    go_end0
    exact⟨rfl,mp,bk,FB,Hp.out,Hq.out⟩
abbrev layV (N C B D R:Nat):Value:= .agg #[(N:Int),(2:Int),(18:Int),(B:Int),(C:Int),(D:Int),(R:Int)]
abbrev J9y (N C B D R:Nat):Array Value:=#[(N:Int),(2:Int),(18:Int),(B:Int),(C:Int),(D:Int),(R:Int)]
structure BegS (w wx:World) (FB:Nat ->Prop) (g mp bk D N:Nat) (cs:Array Value):Prop where
 box:Bo wx g cs
 map:PMap wx mp 0 (fun _ _=>none)
 book:Led.BookAt wx FB bk (D:Int) ((N - D:Nat):Int) [] []
 bel:Below w.heap.size w wx
 low:w.heap.size<=g/\w.heap.size<=mp/\(∀x,FB x ->w.heap.size<=x)
 ne: ¬ FB g/\ ¬ FB mp
theorem J9z{w w0 w3:World}{bk D N:Nat}{cs:Array Value}(hb0:Below w.heap.size w w0)(hb3:Below (w0.alloc (.map #[] 0)).drew.heap.size (w0.alloc (.map #[] 0)).drew w3)(hbk:Led.BookAt w3 (made (w0.alloc (.map #[] 0)).drew w3) bk (D:Int) ((N - D:Nat):Int) [] []):
  BegS w (w3.alloc (.cells cs 69)) (made (w0.alloc (.map #[] 0)).drew w3) w3.heap.size w0.heap.size bk D N cs/\Below w0.heap.size w0 w3/\Below w0.heap.size w0 (w3.alloc (.cells cs 69)):=by
 have r:(w0.alloc (.map #[] 0)).drew.heap.size=w0.heap.size+1:=by simp
 have s:=hb3.size;have v:=hb0.size;have u:=((qaa w0.heap.size w0).alloc (qab _) (.map #[] 0)).drew;have y:Below w0.heap.size w0 w3:=u.trans (hb3.mono (by omega));have t:=((PMap.made w0).below ((qaa (w0.alloc (.map #[] 0)).heap.size (w0.alloc (.map #[] 0))).drew)).below hb3;have z:=(qaa w3.heap.size w3).alloc (qab _) (.cells cs 69);refine⟨⟨Bo.of (Bx.new w3 _ _),t.below z,hbk.below z,(hb0.trans (y.mono v)).trans (z.mono (by omega)),⟨by omega,v,fun x hx=> ?_⟩,fun hx=> ?_,fun hx=> ?_⟩,y,y.trans (z.mono (by omega))⟩
 · have:=hx.1;omega
 · have:=hx.2;omega
 · have:=hx.1;omega
theorem J8e{w w0 w3:World}{bk D N:Nat}{cs:Array Value}(hb0:Below w.heap.size w w0)(hb3:Below w0.drew.heap.size w0.drew w3)(hbk:Led.BookAt w3 (made w0.drew w3) bk (D:Int) ((N - D:Nat):Int) [] []):
  BegS w ((w3.alloc (.map #[] 0)).alloc (.cells cs 69)) (made w0.drew w3) (w3.heap.size+1) w3.heap.size bk D N cs/\Below w0.heap.size w0 w3/\Below w0.heap.size w0 (w3.alloc (.map #[] 0))/\Below w0.heap.size w0 ((w3.alloc (.map #[] 0)).alloc (.cells cs 69)):=by
 have o:w0.drew.heap.size=w0.heap.size:=rfl;have p:=hb3.size;have r:=hb0.size;have y:Below w0.heap.size w0 w3:=((qaa w0.heap.size w0).drew).trans (hb3.mono (by omega));have v:=(qaa w3.heap.size w3).alloc (qab _) (.map #[] 0);have q:(w3.alloc (.map #[] 0)).heap.size=w3.heap.size+1:=by simp
 have z:=(qaa (w3.alloc (.map #[] 0)).heap.size (w3.alloc (.map #[] 0))).alloc (qab _) (.cells cs 69);have u:=Bx.new (w3.alloc (.map #[] 0)) 69 cs;rw[q] at u;have t:Below w0.heap.size w0 (w3.alloc (.map #[] 0)):=y.trans (v.mono (by omega));have s:=t.trans (z.mono (by omega));refine⟨⟨Bo.of u,(PMap.made w3).below z,(hbk.below v).below z,hb0.trans (s.mono r),⟨by omega,by omega,fun x hx=> ?_⟩,fun hx=> ?_,fun hx=> ?_⟩,y,t,s⟩
 · have:=hx.1;omega
 · have:=hx.2;omega
 · have:=hx.2;omega
theorem Ju3(N C B D R gd:Nat)(w:World)(hL:Jd3 N C B D R):
  Cs 91 #[gd,layV N C B D R] w fun e w'=>∃g mp bk FB,e= .returned (g:Nat)/\BegS w w' FB g mp bk D N (Jdm N C B D R ⟨gd,0,none⟩ 0 0 mp bk none 0):=by
 have h:38<=D/\D<=N/\N<=4096:=by have:=hL.bd;have:=hL.n;omega
 have f:=@run_makeMap Tryz.prog;have d:IntKind.i64.wrap ((N:Int) - (D:Int))=(N:Int) - (D:Int):=qbd _ (by omega);have k:=zI (show(N:Int) - (D:Int)=((N - D:Nat):Int) from by omega);obtain⟨w0,s⟩:=exE (w.alloc (.cells (J9y N C B D R) 64));have o:Below w.heap.size w w0:=by rw[s];exact(qaa _ w).alloc (qab _) _
 have m:Bx w0 w.heap.size 64 (J9y N C B D R):=by rw[s];exact Bx.new w _ _
 have j:=zI s;have l:=zI o;have y:=zI m;have i:=zI (fun W=>Led.book_new (D:Int) ((N:Int) - (D:Int)) W (by omega) (by omega))
 have x:=zI (fun (W:World) (t:Below w0.heap.size w0 W)=>(show W.cell? ⟨w.heap.size,0,none⟩=some (.int .i64 (N:Int))/\W.cell? ⟨w.heap.size,1,none⟩=some (.int .i64 2)/\W.cell? ⟨w.heap.size,2,none⟩=some (.int .i64 18)/\W.cell? ⟨w.heap.size,3,none⟩=some (.int .i64 (B:Int))/\W.cell? ⟨w.heap.size,4,none⟩=some (.int .i64 (C:Int))/\W.cell? ⟨w.heap.size,5,none⟩=some (.int .i64 (D:Int))/\W.cell? ⟨w.heap.size,6,none⟩=some (.int .i64 (R:Int)) from
  ⟨(y.out.below t).at_ 0 rfl,(y.out.below t).at_ 1 rfl,(y.out.below t).at_ 2 rfl,(y.out.below t).at_ 3 rfl,(y.out.below t).at_ 4 rfl,(y.out.below t).at_ 5 rfl,(y.out.below t).at_ 6 rfl⟩))
 have q:=(qaa w0.heap.size w0).drew;have p:=((qaa w0.heap.size w0).alloc (qab _) (.map #[] 0)).drew;have K0:=zI (x.out _ q);have K1:=zI (x.out _ p);have c:=zI q;have b:=zI p;clear s o m hL q p;go_enter Tryz.func91,Tryz.ntmps91;go_upto_region 1 with fail
 rw[<- j.out];go_cut [4] (fun s4 wx=>∃g mp bk FB,s4= .pointer (some ⟨g,0,none⟩)/\BegS w wx FB g mp bk D N (Jdm N C B D R ⟨gd,0,none⟩ 0 0 mp bk none 0))
 case first=>
  go_region_held3 (fun w'=>w'.cell? ⟨w.heap.size,0,none⟩=some (.int .i64 (N:Int))/\w'.cell? ⟨w.heap.size,1,none⟩=some (.int .i64 2)/\w'.cell? ⟨w.heap.size,2,none⟩=some (.int .i64 18)/\w'.cell? ⟨w.heap.size,3,none⟩=some (.int .i64 (B:Int))/\w'.cell? ⟨w.heap.size,4,none⟩=some (.int .i64 (C:Int))/\w'.cell? ⟨w.heap.size,5,none⟩=some (.int .i64 (D:Int))/\w'.cell? ⟨w.heap.size,6,none⟩=some (.int .i64 (R:Int)))
   (first
     | with_reducible exact K0.out
     | with_reducible exact K1.out
     | with_reducible exact K3.out
     | with_reducible exact K4.out
     | with_reducible exact K5.out)
   (first
     | (go_at_call 160
        refine(i.out _).mono ?_;rintro e w3 ⟨bk,rfl,u,r⟩;rw[k.out] at u
        first
        | (have z:Below (w0.alloc (.map #[] 0)).drew.heap.size (w0.alloc (.map #[] 0)).drew w3:=by with_reducible exact r
           have v:=zI (J9z (cs:=#[(N:Int),(2:Int),(18:Int),(B:Int),(C:Int),(D:Int),(R:Int),gd,.int .u64 0,.int .u64 0,.map (some w0.heap.size),bk,.pointer none,(0:Int)]) l.out z u);have K3:=zI (x.out _ v.out.2.1);have K4:=zI (x.out _ v.out.2.2);clear u r z)
        | (have z:Below w0.drew.heap.size w0.drew w3:=by with_reducible exact r
           have v:=zI (J8e (cs:=#[(N:Int),(2:Int),(18:Int),(B:Int),(C:Int),(D:Int),(R:Int),gd,.int .u64 0,.int .u64 0,.map (some w3.heap.size),bk,.pointer none,(0:Int)]) l.out z u);have K3:=zI (x.out _ v.out.2.1);have K4:=zI (x.out _ v.out.2.2.1);have K5:=zI (x.out _ v.out.2.2.2);clear u r z)))
  all_goals
   go_split_ands;go_wp2_with fail
   go_meet;exact⟨_,_,bk,_,rfl,v.out.1⟩
 case rest=>
  obtain⟨g,mp,bk,FB,rfl,t⟩:=hcut;have a:=zI t;clear t;go_wp2_with fail
  go_ret;exact⟨g,mp,bk,FB,rfl,a.out⟩
