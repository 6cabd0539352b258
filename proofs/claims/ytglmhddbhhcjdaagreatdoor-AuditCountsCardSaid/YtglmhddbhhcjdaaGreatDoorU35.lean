/-
  Several texts in one: Cate, Catg.
-/
import Derived.Test.YtglmhddbhhcjdaaGreatDoorU26
import Derived.Test.YtglmhddbhhcjdaaGreatDoorU19
set_option maxRecDepth 100000
set_option linter.unusedSimpArgs false
set_option maxHeartbeats 4000000
namespace Go.Proofs.YtglmhddbhhcjdaaGreatDoor
open Go.RowKit
def enB (e:En):List UInt8:=le 8 e.id++(le 1 e.tier++le 1 e.shard)++le 2 e.bl.length++e.bl.flatMap fun b=>le 2 b.toNat
def catH (g i:Nat) (now:Int) (txt:List UInt8) (fl:List Int) (n:Nat):List UInt8:=
 le 8 g++le 8 i++le 8 (u64 now)++txB txt++(fl.flatMap fun v=>le 8 (u64 v))++txB []++(le 8 (u64 0)++le 8 (u64 0))++le 2 n
def catB (g i:Nat) (now:Int) (txt:List UInt8) (fl:List Int) (es:List En):List UInt8:=catH g i now txt fl es.length++es.flatMap enB
structure Jgs (w:World) (F:Nat ->Prop) (g i:Nat) (now:Int) (nm:ByteArray) (A:Option Addr) (n c:Nat) (B:Option Addr) (c2:Nat) (E:Option Addr) (en ec:Nat) (ts:List Ti) (fl:List Int) (ms:List Em):Prop where
 hg:1<=g/\g<18446744073709551616
 hi:i<18446744073709551616
 hnow:0<=now/\now<=1099511627776
 hnm:nm.size<=maxLen
 hts:Tis w A n ts
 hc:n<=c
 hck:Py.checkR nm.toList ts=(0,0)
 hfl:Ints w .i64 B n fl
 hflo:∀f∈fl,0<=f/\f<=4611686018427387904
 hes:Jh3 w F E en ms
 hen:en<=90
 hok:∀m∈ms,m.e.Ok i
 hsh:(shK ms).Nodup
 hbl:(Jd8 ms).Nodup
 hlen:(catB g i now (Py.printL nm.toList ts) fl (ms.map Em.e)).length<=40000
theorem Jgs.below{w w':World}{F:Nat ->Prop}{g i:Nat}{now:Int}{nm:ByteArray}{A:Option Addr}{n c:Nat}{B:Option Addr}{c2:Nat}{E:Option Addr}{en ec:Nat}{ts:List Ti}{fl:List Int}{ms:List Em}(h:Jgs w F g i now nm A n c B c2 E en ec ts fl ms)(hb:Below w.heap.size w w'):Jgs w' F g i now nm A n c B c2 E en ec ts fl ms:=
 ⟨h.hg,h.hi,h.hnow,h.hnm,h.hts.below hb,h.hc,h.hck,h.hfl.below hb,h.hflo,h.hes.below hb,h.hen,h.hok,h.hsh,h.hbl,h.hlen⟩
theorem Jzr{F:Nat ->Prop}(g i:Nat)(now:Int)(nm:ByteArray)(A:Option Addr)(n c:Nat)(B:Option Addr)(c2:Nat)(E:Option Addr)(en ec:Nat)(ts:List Ti)(fl:List Int)(ms:List Em)(w:World)(h:Jgs w F g i now nm A n c B c2 E en ec ts fl ms)(hG:Glo w):
  Calls Tryz.prog 280 #[.agg (Jaz g i now nm A n c B c2 E en ec)] w fun e w'=>e= .returned (.tuple #[.string (strOf (catB g i now (Py.printL nm.toList ts) fl (ms.map Em.e))),.int .i64 0])/\Below w.heap.size w w':=by
 have Z:Below w.heap.size w (w.alloc (.cells (Jaz g i now nm A n c B c2 E en ec) 207)):=(qaa _ w).alloc (qab _) _;have b0:=Bx.new w 207 (Jaz g i now nm A n c B c2 E en ec);have r:=h.below Z;have Kw:=zI (Jy0 g i now nm A n c B c2 E en ec ts fl ms _ r.hg.1 r.hnow r.hnm r.hts r.hc r.hck r.hfl r.hflo r.hes r.hen r.hok r.hsh r.hbl);have HC:=zI r;have HG:=zI (hG.below Z);have Kx:=zI b0;have Hn:=zI Z;have Ky:=zI (fun W=>Jty g i now nm A n c B c2 E en ec W);have Ta:=h.hen;clear b0 Z h r hG;go_enter Tryz.func280,Tryz.ntmps280;go_wp2_with fail
 refine Kw.out.mono ?_;rintro e w1 ⟨rfl,o⟩;have Ho:=zI (Kx.out.below o);have Hp:=zI (Hn.out.trans (o.mono Hn.out.size));have Y:=zI (HC.out.below o);have Kz:=zI (HG.out.below o);have KC:=zI (Py.printP_any nm A n c ts w1 Y.out.hck Y.out.hts Y.out.hc Kz.out.tab);clear o;obtain⟨x0,x1,x2,x3,x4,x5,x6,x7,x8,x9,x10,x11⟩:=Jbi Ho.out;go_wp2_with fail
 refine KC.out.mono ?_;rintro e w2 ⟨rfl,V⟩;have Hq:=zI (Ho.out.below V);have Hr:=zI (Hp.out.trans (V.mono Hp.out.size));have KD:=zI (Y.out.below V);clear V x0 x1 x2 x3 x4 x5 x6 x7 x8 x9 x10 x11;obtain⟨x0,x1,x2,x3,x4,x5,x6,x7,x8,x9,x10,x11⟩:=Jbi Hq.out;go_wp2_with fail
 refine(Ky.out _).mono ?_;rintro e w3 ⟨rfl,U⟩;have q:=zI (Hq.out.below U);have Hs:=zI (Hr.out.trans (U.mono Hr.out.size));have t:=zI (KD.out.below U);clear U x0 x1 x2 x3 x4 x5 x6 x7 x8 x9 x10 x11;go_upto_region 8 with fail
 have f:=zI (LayW.new w3);have KE:=zI t.out.hfl;have Hb:=zI t.out.hlen;have Ht:=zI (show(fl.flatMap fun v=>le 8 (u64 v)).length=8*n from by rw[Je1 (fun v=>le 8 (u64 v)) 8 (fun a=>Ja0 8 _) fl,t.out.hfl.len]);have S:1<=n:=by have:=(Py.check_fine t.out.hck).2.1;rw[t.out.hts.len] at this;exact this
 have hb:(Py.printL nm.toList ts).length+8*n<=40000:=by
  have:=Hb.out;unfold catB catH at this;simp only[qac,Ht.out] at this;unfold txB at this;simp only[qac,Ja0] at this;omega
 generalize hPP:Py.printL nm.toList ts=P at*;have KG:=zI hPP;obtain⟨pn,d⟩:∃pn,pn=P.length:=⟨_,rfl⟩;have Hu:(⟨P.toArray⟩:ByteArray).size=pn:=by rw[<- Jac,Py.toList_mk,d]
 have Hv:=zI (show txB (⟨P.toArray⟩:ByteArray).toList=txB P from by rw[Py.toList_mk]);have KH:=zI (show(txB P).length=2+pn from by unfold txB;rw[qac,Ja0,d]);rw[<- d] at hb;have Tb:=zI d;have KI:=zI (show(txB ByteArray.empty.toList).length=2 from by unfold txB;rw[qac,Ja0,ByteArray.toList_eq];rfl);have KJ:=zI Hu;generalize (⟨P.toArray⟩:ByteArray)=PS at*;obtain⟨gp,Hw⟩:∃gp,gp=w3.heap.size:=⟨_,rfl⟩;obtain⟨wL,Hx⟩:∃wL,wL=w3.alloc (.cells #[.int .i64 0,.slice none 0 0] 281):=⟨_,rfl⟩;rw[<- Hw,<- Hx] at f ⊢;obtain⟨l0,R⟩:∃l0:List UInt8,l0=[]:=⟨_,rfl⟩;rw[<- R] at f;have Hy:=zI R;have Hz:l0.length=0:=by rw[R];rfl
 clear Hx Hw R d Hu hPP;have z:=zI (f.out.bx q.out);have x0:=z.out.at_ 0 (v:= .int .u64 (g:Int)) rfl;have x1:=z.out.at_ 1 (v:= .int .u64 (i:Int)) rfl;have u:=zI (f.out.words [g,i] 2 2 #[.int .u64 (g:Int),.int .u64 (i:Int)] rfl rfl (by omega));go_upto_region 9 with(go_at_call 260;refine u.out.mono ?_;rintro e w11 ⟨rfl,y⟩)
 obtain⟨l1,O⟩:∃l,l=l0++[g,i].flatMap (le 8):=⟨_,rfl⟩;rw[<- O] at y;have S:l1.length=16:=by rw[O,qac,Hz];simp only[qad,qae,qac,Ja0,qaf]
 have Hc:=zI y;have H0:=zI O;clear y O Hz u z x0 x1;have z:=zI (Hc.out.bx q.out);have x0:=z.out.at_ 2 (v:= .int .i64 now) rfl;have u:=zI (Hc.out.ints [now] 1 1 #[.int .i64 now] rfl rfl (by omega));go_upto_region 10 with(go_at_call 176;refine u.out.mono ?_;rintro e w12 ⟨rfl,y⟩)
 obtain⟨l2,N⟩:∃l,l=l1++[now].flatMap fun v=>le 8 (u64 v):=⟨_,rfl⟩;rw[<- N] at y;have H9:l2.length=24:=by rw[N,qac,S];simp only[qad,qae,qac,Ja0,qaf]
 have Ka:=zI y;have Kb:=zI N;clear y N S u z x0;have u:=zI (Ka.out.text PS (by omega) (by rw[KJ.out];omega));go_upto_region 11 with(go_at_call 330;refine u.out.mono ?_;rintro e w13 ⟨rfl,y⟩)
 obtain⟨l3,M⟩:∃l,l=l2++txB PS.toList:=⟨_,rfl⟩;rw[<- M] at y;have Kc:l3.length=26+pn:=by rw[M,qac,H9,Hv.out,KH.out];omega
 have Hd:=zI y;have Kd:=zI M;clear y M H9 u;have z:=zI (Hd.out.bx q.out);have x0:=z.out.at_ 5 (v:= .slice B n c2) rfl;have u:=zI (Hd.out.ints_old B n c2 fl KE.out S (by omega));go_upto_region 12 with(go_at_call 176;refine u.out.mono ?_;rintro e w14 ⟨rfl,y⟩)
 obtain⟨l4,L⟩:∃l,l=l3++fl.flatMap fun v=>le 8 (u64 v):=⟨_,rfl⟩;rw[<- L] at y;have Ke:l4.length=26+pn+8*n:=by rw[L,qac,Kc,Ht.out]
 have Kf:=zI y;have Kg:=zI L;clear y L Kc u z x0;have u:=zI (Kf.out.text ByteArray.empty (by omega) (by decide));go_upto_region 13 with(go_at_call 330;refine u.out.mono ?_;rintro e w15 ⟨rfl,y⟩)
 obtain⟨l5,J⟩:∃l,l=l4++txB ByteArray.empty.toList:=⟨_,rfl⟩;rw[<- J] at y;have Kh:l5.length=28+pn+8*n:=by rw[J,qac,Ke,KI.out];omega
 have He:=zI y;have Ki:=zI J;clear y J Ke u;have z:=zI (He.out.bx q.out);have x0:=z.out.at_ 8 (v:= .slice none 0 0) rfl;have u:=zI (He.out.small_nil 1 (.inl rfl) (by omega));go_upto_region 14 with(go_at_call 175;refine u.out.mono ?_;rintro e w16 ⟨rfl,y⟩)
 obtain⟨l6,I⟩:∃l,l=l5:=⟨_,rfl⟩;rw[<- I] at y;have Kj:l6.length=28+pn+8*n:=by rw[I,Kh]
 have Hf:=zI y;have Kk:=zI I;clear y I Kh u z x0;have z:=zI (Hf.out.bx q.out);have x0:=z.out.at_ 9 (v:= .int .i64 0) rfl;have x1:=z.out.at_ 10 (v:= .int .i64 0) rfl;have u:=zI (Hf.out.ints [0,0] 2 2 #[.int .i64 0,.int .i64 0] rfl rfl (by omega));go_upto_region 15 with(go_at_call 176;refine u.out.mono ?_;rintro e w17 ⟨rfl,y⟩)
 obtain⟨l7,H⟩:∃l,l=l6++[0,0].flatMap fun v=>le 8 (u64 v):=⟨_,rfl⟩;rw[<- H] at y;have Kl:l7.length=44+pn+8*n:=by rw[H,qac,Kj];simp only[qad,qae,qac,Ja0,qaf];omega
 have Hg:=zI y;have Km:=zI H;clear y H Kj u z x0 x1;have z:=zI (Hg.out.bx q.out);have x0:=z.out.at_ 11 (v:= .slice E en ec) rfl;have u:=zI (Hg.out.small 2 (.inr (.inl rfl)) [en] (by intro v hv;rw[qag.1 hv];omega) 1 1 #[.int .i64 (en:Int)] rfl rfl (by omega));go_upto_region 16 with(go_at_call 175;refine u.out.mono ?_;rintro e w18 ⟨rfl,y⟩)
 obtain⟨l8,G⟩:∃l,l=l7++[en].flatMap (le 2):=⟨_,rfl⟩;rw[<- G] at y;have Tc:l8.length=46+pn+8*n:=by rw[G,qac,Kl];simp only[qad,qae,qac,Ja0,qaf];omega
 have D:=zI y;have Kn:=zI G;clear y G Kl u z x0
 have KK:=zI (show l8=catH g i now P fl en from by
  rw[Kn.out,Km.out,Kk.out,Ki.out,Kg.out,Kd.out,Kb.out,H0.out,Hy.out,Hv.out];unfold catH;rw[show ByteArray.empty.toList=[] from by rw[ByteArray.toList_eq];rfl];simp only[qad,qae,qah,qai,qaj])
 clear Kn Km Kk Ki Kg Kd Kb H0 Hy Hg Hf He Kf Hd Ka Hc f;have Ko:=zI t.out.hes;have C:=zI t.out.hes.len;have KL:=zI t.out.hok;have KM:=zI t.out.hi;rw[KK.out] at D;have z:=zI (D.out.bx q.out);have x0:=z.out.at_ 11 (v:= .slice E en ec) rfl;go_wp2_with fail
 clear x0 z;obtain⟨wo,Kp⟩:∃wo:World,wo=w18:=⟨_,rfl⟩;rw[<- Kp] at D ⊢;clear Kp;go_loopw [61] (fun j wr=>∃k:Nat,k<=en/\j= .int .i64 (k:Int)/\LayW w3 wr gp (catH g i now P fl en++((ms.map Em.e).take k).flatMap enB)) (fun j _=>en - (intOf j).toNat)
 case atStart=>exact⟨0,qak _,rfl,by simpa using D.out⟩
 case round=>
  obtain⟨k,hk,rfl,hL⟩:=hrel;by_cases KN:k<en
  · have K:k<ms.length:=by rw[C.out];exact KN
    obtain⟨b,off,rfl,Td,KO⟩:=(Ko.out.below hL.below).get K;have p:=zI (KL.out _ (qal K));have Hh:=zI ((Ko.out.row _ (qal K)).1)
    have Hi:=zI (show catH g i now P fl en++((ms.map Em.e).take (k+1)).flatMap enB=catH g i now P fl en++((ms.map Em.e).take k).flatMap enB++enB ms[k].e from by
     rw[qam (by simpa using K),qan,qad,qae,qai,qao,qaj])
    have Kq:=zI (show(catH g i now P fl en++((ms.map Em.e).take k).flatMap enB).length+(enB ms[k].e).length<=40000 from by
     rw[<- qac,<- Hi.out];refine qap ?_ Hb.out;unfold catB;rw[qaq,C.out,qac,qac]
     have:(((ms.map Em.e).take (k+1)).flatMap enB).length<=((ms.map Em.e).flatMap enB).length:=by
      conv=>rhs;rw[<- qar (k+1) (ms.map Em.e),qan,qac]
      omega
     omega)
    generalize ms[k]'K=x at*;generalize catH g i now P fl en++((ms.map Em.e).take k).flatMap enB=m0 at*;obtain⟨⟨id,tier,shard,bl⟩,A5,c5⟩:=x;obtain⟨r0,r1,r2,r3,r4,r5⟩:=KO;dsimp only at r0 r1 r2 r3 r4 r5 p Hh Hi Kq;obtain⟨m,hm⟩:∃m,m=bl.length:=⟨_,rfl⟩;rw[<- hm] at r4 r5 Hh;have HM:=zI hm;have KP:1<=m/\m<=4096:=by rw[hm];exact p.out.len
    have Te:tier<=9:=p.out.tier;have Tf:shard<=7:=p.out.shard;have Tg:id<=i:=p.out.id.2;have Th:=KM.out
    have Tj:m0.length+(12+2*m)<=40000:=by
     have:=Kq.out;unfold enB at this;simp only[qac,Ja0] at this;rw[Je1 (fun b:Int=>le 2 b.toNat) 2 (fun a=>Ja0 2 _),<- HM.out] at this;omega
    have Kr:=(qaa wr.heap.size wr).alloc (qab _) (.cells #[.int .u64 (id:Int),.int .i64 (tier:Int),.int .i64 (shard:Int),.int .i64 0,.int .i64 (m:Int),.slice A5 m c5] 312);have hJ:=Bx.new wr 312 #[.int .u64 (id:Int),.int .i64 (tier:Int),.int .i64 (shard:Int),.int .i64 0,.int .i64 (m:Int),.slice A5 m c5];have Hj:=hL.then_below Kr;obtain⟨gb,Ha⟩:∃gb,gb=wr.heap.size:=⟨_,rfl⟩;obtain⟨we,Hk⟩:∃we,we=wr.alloc (.cells #[.int .u64 (id:Int),.int .i64 (tier:Int),.int .i64 (shard:Int),.int .i64 0,.int .i64 (m:Int),.slice A5 m c5] 312):=⟨_,rfl⟩;rw[<- Hk] at hJ Hj;rw[<- Ha] at hJ;have Hl:=zI (show gb≠gp from by rw[Ha];have:=hL.lt;omega);have KQ:=zI Hj;have Ks:=zI hJ;have KR:=zI Hk;have KS:=zI Ha;clear hm hL Kr hJ Hj Hk Ha;go_upto_region 19 with fail
    rw[<- KR.out,<- KS.out];clear r0 r1 r2 r3 r4 r5;have y0:=Ks.out.at_ 0 (v:= .int .u64 (id:Int)) rfl;have u:=zI (KQ.out.wordsK [id] 1 1 #[.int .u64 (id:Int)] rfl rfl (by omega));go_upto_region 20 with(go_at_call 260;refine u.out.mono ?_;rintro e wf ⟨rfl,y,s⟩)
    have Hm:=zI (s _ _ _ Hl.out (by decide) Ks.out);have KT:=zI y;clear y0 u y s;have y1:=Hm.out.at_ 1 (v:= .int .i64 (tier:Int)) rfl;have y2:=Hm.out.at_ 2 (v:= .int .i64 (shard:Int)) rfl;have u:=zI (KT.out.smallK 1 (.inl rfl) [tier,shard] (by intro v hv;simp at hv;rcases hv with rfl | rfl<;>omega) 2 2 #[.int .i64 (tier:Int),.int .i64 (shard:Int)] rfl rfl (by rw[qac];simp only[qad,qae,qac,Ja0,qaf];omega))
    go_upto_region 21 with(go_at_call 175;refine u.out.mono ?_;rintro e wg ⟨rfl,y,s⟩)
    have Kt:=zI (s _ _ _ Hl.out (by decide) Hm.out);have KU:=zI y;clear y1 y2 u y s;have y5:=Kt.out.at_ 5 (v:= .slice A5 m c5) rfl;have u:=zI (KU.out.smallK 2 (.inr (.inl rfl)) [m] (by intro v hv;rw[qag.1 hv];omega) 1 1 #[.int .i64 (m:Int)] rfl rfl (by simp only[qad,qae,qac,Ja0,qaf];omega));go_upto_region 22 with(go_at_call 175;refine u.out.mono ?_;rintro e wh ⟨rfl,y,s⟩)
    have KV:=zI (s _ _ _ Hl.out (by decide) Kt.out);have KW:=zI y;clear y5 u y s;have y5:=KV.out.at_ 5 (v:= .slice A5 m c5) rfl;have u:=zI (KW.out.small_old 2 (.inr (.inl rfl)) A5 m c5 bl Hh.out KP.1 (fun v hv=>by have:=p.out.bl v hv;omega) (by simp only[qad,qae,qac,Ja0,qaf];omega));go_upto_region 23 with(go_at_call 175;refine u.out.mono ?_;rintro e wi ⟨rfl,y⟩)
    have Ku:=zI y
    have KX:=zI (show m0++[id].flatMap (le 8)++[tier,shard].flatMap (le 1)++[m].flatMap (le 2)++(bl.flatMap fun v=>le 2 v.toNat)=catH g i now P fl en++((ms.map Em.e).take (k+1)).flatMap enB from by
     rw[Hi.out];unfold enB;dsimp only;rw[<- HM.out];simp only[qad,qae,qai,qaj])
    rw[KX.out] at Ku;clear y5 u y;go_wp2_with fail
    go_roundw
    case rel=>exact⟨k+1,by omega,by go_num,Ku.out⟩
    case measure=>simp[intOf];omega
  · have Tk:k=en:=by omega
    have KY:=zI (show catH g i now P fl en++((ms.map Em.e).take k).flatMap enB=catB g i now P fl (ms.map Em.e) from by
     unfold catB;rw[qas (by rw[qaq,C.out];omega),qaq,C.out])
    rw[KY.out] at hL;have K9:=Hb.out;generalize hTT:catB g i now P fl (ms.map Em.e)=T at*;have KZ:=zI (show T=catB g i now (Py.printL nm.toList ts) fl (ms.map Em.e) from by rw[KG.out];exact hTT.symm);clear hTT;have Kv:=zI hL.len;have K7:=zI hL.done;have K8:=zI (Hs.out.trans (hL.below.mono Hs.out.size));have d1:decide ((40000:Int)<(T.length:Int))=false:=qat (by omega);have d2: ¬ (40000<T.length):=(by omega);clear hL;go_wp2_with fail
    refine Kv.out.mono ?_;rintro e wj ⟨rfl,hw⟩;subst hw;go_wp2_with fail
    refine K7.out.mono ?_;rintro e wj ⟨rfl,hw⟩;subst hw;go_wp2_with fail
    go_ret2;rw[<- KZ.out];exact⟨rfl,K8.out⟩
def blB (l:List Int):List UInt8:=l.flatMap fun b=>le 2 b.toNat
theorem Jsc(l:List Int):(blB l).length=2*l.length:=by unfold blB;rw[Je1 (fun b:Int=>le 2 b.toNat) 2 (fun a=>Ja0 2 _)]
theorem Jk7(e:En)(r:List UInt8):enB e++r=le 8 e.id++(le 1 e.tier++(le 1 e.shard++(le 2 e.bl.length++(blB e.bl++r)))):=by unfold enB blB;simp only[qaj]
theorem J7e(e:En):(enB e).length=12+2*e.bl.length:=by
 have:=congrArg List.length (Jk7 e []);simp only[qac,Ja0,Jsc,qaf,qau] at this;omega
structure En.Fit (x:En):Prop where
 id:x.id<18446744073709551616
 tier:x.tier<=9
 shard:x.shard<=7
 len:x.bl.length<=4096
 bl:∀b∈x.bl,0<=b/\b<=4095
structure EnRd (w wr:World) (g:Nat) (ms:List Em) (v:Value):Prop where
 chg:Chg (fun b=>b=g) w wr
 own:wr.ownsRow w.heap.size 312 6 v ms.length (ms.flatMap Em.cells)
 row:∀m∈ms,wr.ownsRow w.heap.size 3 1 (.slice m.A m.e.bl.length m.c) m.e.bl.length (m.e.bl.map (Value.int .i64))
section
variable {w wr w':World} {g:Nat} {ms:List Em} {v v':Value}
theorem Jzs{wr:World}{B:Nat}{e:TypeId}{k n:Nat}{v:Value}{xs:List Value}(h:wr.ownsRow B e k v n xs){g:Nat}(hg:g<B):∀b,v.ownBlock=some b -> ¬ b=g:=fun b hb e=>by have:=(h.lt b hb).1;omega
theorem EnRd.step(h:EnRd w wr g ms v)(hc:Chg (fun b=>b=g) wr w')(hg:g<w.heap.size):EnRd w w' g ms v:=
 ⟨h.chg.trans hc (fun _ x=> .inl x),Jav h.own hc (fun b hb e=>by have:=(h.own.lt b hb).1;omega),fun m hm=>Jav (h.row m hm) hc (fun b hb e=>by have:=((h.row m hm).lt b hb).1;omega)⟩
theorem EnRd.snoc(h:EnRd w wr g ms v)(m:Em)(hm:wr.ownsRow w.heap.size 3 1 (.slice m.A m.e.bl.length m.c) m.e.bl.length (m.e.bl.map (Value.int .i64)))(hg:wr.grownBy w' v.ownBlock)(ho:w'.ownsRow w.heap.size 312 6 v' (ms.length+1) (ms.flatMap Em.cells++m.cells)):EnRd w w' g (ms++[m]) v':=by
 refine⟨h.chg.trans (Chg.of_grown (F:=fun b=>v.ownBlock=some b) hg (fun b e=>e)) (fun b hb=> .inr (h.own.lt b hb).1),?_,fun x z=> ?_⟩
 · rw[qac,qan]
   simpa using ho
 · have key:∀y:Em,wr.ownsRow w.heap.size 3 1 (.slice y.A y.e.bl.length y.c) y.e.bl.length (y.e.bl.map (Value.int .i64)) ->w'.ownsRow w.heap.size 3 1 (.slice y.A y.e.bl.length y.c) y.e.bl.length (y.e.bl.map (Value.int .i64)):=fun y hy=>
    hy.kept hg (Jhh hy h.own (by decide))
   rcases qav.1 z with z | z
   · exact key x (h.row x z)
   · rw[qag.1 z];exact key m hm
end
structure EnQ (wr wq:World) (g gb id tier shard m q:Nat) (A:Option Addr) (c:Nat) (zs:List Int):Prop where
 chg:Chg (fun b=>b=g) wr wq
 box:Bx wq gb 312 #[.int .u64 (id:Int),.int .i64 (tier:Int),.int .i64 (shard:Int),.int .i64 0,.int .i64 (m:Int),.slice A q c]
 row:wq.ownsRow wr.heap.size 3 1 (.slice A q c) q (zs.map (Value.int .i64))
 low:wr.heap.size<=gb
theorem EnQ.read{wr wq w':World}{g gb id tier shard m q:Nat}{A:Option Addr}{c:Nat}{zs:List Int}(h:EnQ wr wq g gb id tier shard m q A c zs)(hg:wq.grownBy w' (some g))(hlt:g<wr.heap.size):EnQ wr w' g gb id tier shard m q A c zs:=
 have z:Chg (fun b=>b=g) wq w':=Chg.of_grown hg (fun b e=>by cases e;rfl)
 ⟨h.chg.trans z (fun _ x=> .inl x),h.box.chg z (by have:=h.low;omega),Jav h.row z (Jzs h.row hlt),h.low⟩
theorem EnQ.below{wr wq w':World}{g gb id tier shard m q:Nat}{A:Option Addr}{c:Nat}{zs:List Int}(h:EnQ wr wq g gb id tier shard m q A c zs)(hb:Below wq.heap.size wq w'):EnQ wr w' g gb id tier shard m q A c zs:=
 ⟨h.chg.then_below hb,h.box.below hb,Jai h.row hb,h.low⟩
theorem EnQ.put{wr wq w1:World}{g gb id tier shard m q:Nat}{A A':Option Addr}{c c':Nat}{zs:List Int}{z:Int}(h:EnQ wr wq g gb id tier shard m q A c zs)(hg:wq.grownBy w1 (Value.slice A q c).ownBlock)(ho:w1.ownsRow wr.heap.size 3 1 (.slice A' (q+1) c') (q+1) (zs.map (Value.int .i64)++[.int .i64 z])):
  EnQ wr (w1.setCell ⟨gb,5,none⟩ (.slice A' (q+1) c')) g gb id tier shard m (q+1) A' c' (zs++[z]):=by
 have y:=h.box.grown hg (h.box.not_row h.row (by decide));have x:=Jal w1 gb 5 (.slice A' (q+1) c');refine⟨?_,y.set 5 _,?_,h.low⟩
 · exact(h.chg.trans (Chg.of_grown (F:=fun b=>(Value.slice A q c).ownBlock=some b) hg (fun b e=>e)) (fun b e=> .inr (h.row.lt b e).1)).trans (Chg.of_grown (F:=fun b=>b=gb) x (fun b e=>by cases e;rfl)) (fun b e=> .inr (by rw[e];exact h.low))
 · rw[qaw]
   exact ho.kept x (.inr fun e=>(y.not_row ho (by decide)) e.symm)
theorem Jsd(g:Nat)(es:List En)(r:List UInt8)(w:World)(h:UnAt w g (le 2 es.length++(es.flatMap enB++r)))(hf:∀e∈es,e.Fit)(hn:es.length<=90)(hl:(es.flatMap enB++r).length<=800000):
  Calls Tryz.prog 279 #[.pointer (some ⟨g,0,none⟩)] w fun e w'=>∃v ms,e= .returned v/\ms.map Em.e=es/\EnRd w w' g ms v/\UnAt w' g r:=by
 have Ks:g<w.heap.size:=h.bx.lt;have HF:=zI hf;have HS:=zI (Jcs g 2 es.length (es.flatMap enB++r) w h (.inr (.inl rfl)) (by omega) (by omega))
 have Kt:=zI (show ∀k,((es.drop k).flatMap enB++r).length<=800000 from fun k=>by
  refine qap ?_ hl;rw[qac,qac]
  conv=>rhs;rw[<- qar k es,qan,qac]
  omega)
 obtain⟨n,L⟩:∃n,n=es.length:=⟨_,rfl⟩;rw[<- L] at hn HS;have HN:=zI L;clear h hf hl L;go_enter Tryz.func279,Tryz.ntmps279;go_wp2_with fail
 refine HS.out.mono ?_;rintro e w1 ⟨rfl,Hk,Hl⟩;have Ku:=zI Hk;have J:=zI (show EnRd w w1 g [] (.slice none 0 0) from⟨Chg.of_grown Hl (fun b e=>by cases e;rfl),qax _ _ _ _,fun m hm=>by cases hm⟩);clear Hk Hl;go_wp2_with fail
 go_loopw [3,4] (fun v j wr=>∃ (k d:Nat) (ms:List Em),k+d=n/\j= .int .i64 (d:Int)/\ms.map Em.e=es.take k/\EnRd w wr g ms v/\UnAt wr g ((es.drop k).flatMap enB++r)) (fun _ j _=>(intOf j).toNat)
 case atStart=>exact⟨0,n,[],qay _,rfl,rfl,J.out,Ku.out⟩
 case round=>
  obtain⟨k,d,ms,hk,rfl,i,hR,y⟩:=hrel;have Kv:=zI (Jrz g _ wr y);by_cases Kw:k<n
  · obtain ⟨d',rfl⟩:∃d',d=d'+1:=⟨d - 1,by omega⟩
    have K:k<es.length:=by rw[<- HN.out];exact Kw
    have HD:=zI (show(es.drop k).flatMap enB++r=enB es[k]++((es.drop (k+1)).flatMap enB++r) from by rw[qaz K,qad,qaj]);have o:=zI (HF.out _ (qal K));have Kx:=zI (show es.take (k+1)=es.take k++[es[k]] from qam K);have f:=zI (Kt.out k);have d0:decide ((0:Int)<(d':Int)+1)=true:=qa0 (by omega);rw[HD.out] at y f;generalize es[k]'K=x at*;obtain⟨R,I⟩:∃R,R=(es.drop (k+1)).flatMap enB++r:=⟨_,rfl⟩;rw[<- I] at y f;have Ky:=zI I;clear I;rw[Jk7] at y;rw[Jk7] at f;obtain⟨R4,H⟩:∃R4,R4=blB x.bl++R:=⟨_,rfl⟩;obtain⟨R3,V⟩:∃R3,R3=le 2 x.bl.length++R4:=⟨_,rfl⟩;obtain⟨R2,U⟩:∃R2,R2=le 1 x.shard++R3:=⟨_,rfl⟩;obtain⟨R1,T⟩:∃R1,R1=le 1 x.tier++R2:=⟨_,rfl⟩;rw[<- H,<- V,<- U,<- T] at y f;have Hm:R1.length<=800000:=by have:=f.out;rw[qac] at this;omega
    have G:R2.length<=800000:=by rw[T,qac] at Hm;omega
    have E:R3.length<=800000:=by rw[U,qac] at G;omega
    have Hn:R4.length<=800000:=by rw[V,qac] at E;omega
    have Kz:=zI G;have KC:=zI E;have Ho:=zI Hn;have J:=zI T;have KD:=zI U;have KE:=zI V;have Hp:=zI H;have HW:=zI (Jh1 g x.id R1 wr y o.out.id (by omega));have D:=zI hR;have Hq:=zI i;clear y hR i Hm G E Hn T U V H;go_wp2_with fail
    refine Kv.out.mono ?_;rintro e w2 ⟨rfl,hw⟩;subst hw;go_wp2_with fail
    refine HW.out.mono ?_;rintro e w2 ⟨rfl,C,Hr⟩;rw[J.out] at C;have HT:=zI (Jcs g 1 x.tier R2 w2 C (.inl rfl) (by have:=o.out.tier;omega) (by have:=Kz.out;omega));have Hs:=zI (Chg.of_grown (F:=fun b=>b=g) Hr (fun b e=>by cases e;rfl));clear C Hr;go_wp2_with fail
    refine HT.out.mono ?_;rintro e w3 ⟨rfl,B,Ht⟩;rw[KD.out] at B;have Hu:=zI (Jcs g 1 x.shard R3 w3 B (.inl rfl) (by have:=o.out.shard;omega) (by have:=KC.out;omega));have Hv:=zI (Hs.out.trans (Chg.of_grown (F:=fun b=>b=g) Ht (fun b e=>by cases e;rfl)) (fun _ x=> .inl x));clear B Ht;go_wp2_with fail
    refine Hu.out.mono ?_;rintro e w4 ⟨rfl,hJ,Hw⟩;rw[KE.out] at hJ;have Ha:=Hv.out.trans (Chg.of_grown (F:=fun b=>b=g) Hw (fun b e=>by cases e;rfl)) (fun _ x=> .inl x);have t:=(qaa w4.heap.size w4).alloc (qab _) (.cells #[.int .u64 (x.id:Int),.int .i64 (x.tier:Int),.int .i64 (x.shard:Int),.int .i64 0,.int .i64 0,.slice none 0 0] 312);have S:=Bx.new w4 312 #[.int .u64 (x.id:Int),.int .i64 (x.tier:Int),.int .i64 (x.shard:Int),.int .i64 0,.int .i64 0,.slice none 0 0];obtain⟨gb,P⟩:∃gb,gb=w4.heap.size:=⟨_,rfl⟩;obtain⟨w5,Hb⟩:∃w5,w5=w4.alloc (.cells #[.int .u64 (x.id:Int),.int .i64 (x.tier:Int),.int .i64 (x.shard:Int),.int .i64 0,.int .i64 0,.slice none 0 0] 312):=⟨_,rfl⟩;have KG:=zI P;have KH:=zI Hb;rw[<- Hb] at t S;rw[<- P] at S;obtain⟨m,hm⟩:∃m,m=x.bl.length:=⟨_,rfl⟩;have HM:=zI hm;have Hc:=hJ.below t;rw[<- hm] at Hc;have Hx:=zI (Jcs g 2 m R4 w5 Hc (.inr (.inl rfl)) (by have:=o.out.len;omega) (by have:=Ho.out;omega));have Hy:=zI S;have Hz:=zI (Ha.then_below t);have H0:=zI (show wr.heap.size<=gb from by rw[P];exact Ha.size);clear hJ Hw Ha t S P Hb hm Hc;go_upto_region 6 with fail
    rw[<- KH.out];rw[<- KG.out];go_wp2_with fail
    refine Hx.out.mono ?_;rintro e w6 ⟨rfl,H9,Hd⟩;have He:=H0.out;have Ka:=D.out.chg.size;have O:=Hy.out.grown Hd (by simp;omega);have x4:=O.at_ 4 (v:= .int .i64 0) rfl;have f4:=O.free 4
    have Hf:=zI (show EnQ wr (w6.setCell ⟨gb,4,none⟩ (.int .i64 (m:Int))) g gb x.id x.tier x.shard m 0 none 0 [] from
     ⟨(Hz.out.trans (Chg.of_grown (F:=fun b=>b=g) Hd (fun b e=>by cases e;rfl)) (fun _ x=> .inl x)).trans (Chg.set (F:=fun b=>b=gb) w6 ⟨gb,4,none⟩ _ rfl) (fun b e=> .inr (by rw[e];exact He)),O.set 4 _,qax _ _ _ _,He⟩)
    have Kb:=zI (show UnAt (w6.setCell ⟨gb,4,none⟩ (.int .i64 (m:Int))) g (blB x.bl++R) from⟨by have:=H9.bx.other (p:=⟨gb,4,none⟩) (by show g≠gb;omega) (.int .i64 (m:Int));rw[Hp.out] at this;exact this⟩);have Tc:=zI o.out.len;have Td:m<=4096:=by rw[HM.out];exact o.out.len
    clear H9 Hd O Hx Hy Hz HT HW Hu Hs Hv;go_wp2_with fail
    obtain⟨w7,Kc⟩:∃w7,w7=w6.setCell ⟨gb,4,none⟩ (.int .i64 (m:Int)):=⟨_,rfl⟩;rw[<- Kc] at Hf Kb ⊢;clear Kc x4 f4;obtain⟨wo,Kd⟩:∃wo:World,wo=wr:=⟨_,rfl⟩;rw[<- Kd] at Hf D He Ka H0;clear Kd;go_loopw [6] (fun j wq=>∃ (q:Nat) (A:Option Addr) (c:Nat),q<=m/\j= .int .i64 (q:Int)/\EnQ wo wq g gb x.id x.tier x.shard m q A c (x.bl.take q)/\UnAt wq g (blB (x.bl.drop q)++R)) (fun j _=>m - (intOf j).toNat)
    case atStart=>exact⟨0,none,0,qak _,rfl,Hf.out,Kb.out⟩
    case round=>
     obtain⟨q,A,c,hq,rfl,l,y⟩:=hrel;have t4:=l.box.at_ 4 (v:= .int .i64 (m:Int)) rfl;by_cases KI:q<m
     · have Q:q<x.bl.length:=by rw[<- HM.out];exact KI
       have Ke:=zI (Jrz g _ wr y);have KJ:=zI (show x.bl.take (q+1)=x.bl.take q++[x.bl[q]] from qam Q)
       have KK:=zI (show blB (x.bl.drop q)++R=le 2 (x.bl[q]).toNat++(blB (x.bl.drop (q+1))++R) from by
        rw[qaz Q];unfold blB;rw[qad,qaj])
       have Kf:=zI (show(blB (x.bl.drop (q+1))++R).length<=800000 from by
        have h4:=Ho.out;rw[Hp.out,qac,Jsc] at h4;rw[qac,Jsc,qa1];omega)
       have HZ:=o.out.bl _ (qal Q);rw[KK.out] at y;generalize x.bl[q]'Q=z at*;obtain⟨z',rfl⟩:∃z':Nat,z=(z':Int):=⟨z.toNat,by omega⟩;rw[qa2] at y;obtain⟨RR,Hg⟩:∃RR,RR=blB (x.bl.drop (q+1))++R:=⟨_,rfl⟩;rw[<- Hg] at y Kf;have KL:=zI Hg;clear Hg;have Hh:=(qaa wr.heap.size wr).drew;have Kg:=zI (l.below Hh);have KM:=zI (y.below Hh);have t5:=l.box.at_ 5 (v:= .slice A q c) rfl;have t5':=Kg.out.box.at_ 5 (v:= .slice A q c) rfl;have KN:=zI (Jcs g 2 z' RR wr.drew KM.out (.inr (.inl rfl)) (by omega) (by have:=Kf.out;omega));have KO:=zI (show q+1<=1000000 from by omega);have KP:=zI (show g<wo.heap.size from by omega);clear l y Hh;go_wp2_with fail
       refine Ke.out.mono ?_;rintro e w8 ⟨rfl,hw⟩;subst hw;go_wp2_with fail
       go_region_law (first
        | (refine Jw1 (by rfl) _ _ (by rfl) s.out.row (by rfl) (some ⟨w8.heap.size,0,none⟩) 1 1 [.int .i64 (z':Int)] (by rfl) rfl N.out a.out KO.out KQ.out ?_
           intro A7 c7 w9 Kh M;have X9:=zI (s.out.box.grown M (s.out.box.not_row s.out.row (by decide)));have U9:=zI (Ki.out.bx.grown M (Ki.out.bx.not_row s.out.row (by decide)));have d8:=X9.out.at_ 5 (v:= .slice A q c) rfl;have f8:=X9.out.free 5)
        | (go_simp
           go_at_call 140
           refine KN.out.mono ?_;rintro e w8 ⟨rfl,Kj,Kk⟩;have Z:=(qaa w8.heap.size w8).alloc (qab _) (.cells #[.int .i64 (z':Int)] 3);have Kl:=zI (Kg.out.read Kk KP.out);have s:=zI (Kl.out.below Z);have Ki:=zI (Kj.below Z);have N:=zI (Sl.new w8 3 w8.heap.size [.int .i64 (z':Int)] #[.int .i64 (z':Int)] rfl rfl);have a:=zI (show ∀u∈[Value.int .i64 (z':Int)],u.oneCell'=true from by intro u hu;rw[qag.1 hu];rfl);have KQ:=zI (show wo.heap.size<=(w8.alloc (.cells #[.int .i64 (z':Int)] 3)).heap.size from s.out.chg.size);have d6:=Kl.out.box.at_ 5 (v:= .slice A q c) rfl;have d7:=s.out.box.at_ 5 (v:= .slice A q c) rfl;clear Kj Kk Z))
       all_goals
        have Km:=zI (s.out.put M Kh);rw[<- KJ.out] at Km;have Y:=zI (show UnAt (w9.setCell ⟨gb,5,none⟩ (.slice A7 (q+1) c7)) g RR from⟨U9.out.other (p:=⟨gb,5,none⟩) (by show g≠gb;omega) _⟩);rw[KL.out] at Y;clear Kh M;go_wp2_with fail
        go_roundw
        case rel=>exact⟨q+1,A7,c7,by omega,by go_num,Km.out,Y.out⟩
        case measure=>simp[intOf];omega
     · have KR:q=m:=by omega
       subst KR;have KS:=zI (show x.bl.take q=x.bl from by rw[HM.out,qa3]);have KT:=zI (show blB (x.bl.drop q)++R=R from by rw[HM.out,List.drop_length];rfl);rw[KS.out] at l;rw[KT.out] at y;have t:=(qaa wr.heap.size wr).alloc (qab _) (.cells (Em.cells ⟨x,A,c⟩).toArray 312);have Kn:=zI (l.below t);have Hi:=zI (y.below t);have W:=zI (D.out.step (l.chg.then_below t) Ks);have Ko:=zI (show Em.cells ⟨x,A,c⟩=[.int .u64 (x.id:Int),.int .i64 (x.tier:Int),.int .i64 (x.shard:Int),.int .i64 0,.int .i64 (q:Int),.slice A q c] from by unfold Em.cells;dsimp only;rw[<- HM.out]);have N:=zI (Sl.new wr 312 wr.heap.size (Em.cells ⟨x,A,c⟩) (Em.cells ⟨x,A,c⟩).toArray rfl rfl);have a:=zI (Jyy [⟨x,A,c⟩]);have KU:=zI (show([⟨x,A,c⟩]:List Em).flatMap Em.cells=Em.cells ⟨x,A,c⟩ from by simp);rw[KU.out] at a;have t0:=l.box.at_ 0 (v:= .int .u64 (x.id:Int)) rfl;have t1:=l.box.at_ 1 (v:= .int .i64 (x.tier:Int)) rfl;have t2:=l.box.at_ 2 (v:= .int .i64 (x.shard:Int)) rfl;have t3:=l.box.at_ 3 (v:= .int .i64 0) rfl;have t5:=l.box.at_ 5 (v:= .slice A q c) rfl;have KV:=zI (show ms.length=k from by have:=congrArg List.length Hq.out;rw[qaq,qa4] at this;omega);have KW:=zI (show ms.length+1<=1000000 from by have:=KV.out;omega);have Kp:=zI (show w.heap.size<=(wr.alloc (.cells (Em.cells ⟨x,A,c⟩).toArray 312)).heap.size from W.out.chg.size);have Kq:=zI (show(Em.cells ⟨x,A,c⟩).length=1*6 from rfl);rw[Ko.out] at W N a Kn Hi Kp Kq;clear l y t;go_wp2_with (at_builtin;refine Jw3 rfl _ _ rfl W.out.own rfl (some ⟨wr.heap.size,0,none⟩) 1 1 _ rfl Kq.out N.out a.out KW.out Kp.out ?_;intro A' c' w5 Kr Hj)
       have KX:=zI (W.out.snoc (v':= .slice A' (ms.length+1) c') ⟨x,A,c⟩ (by dsimp only;rw[<- HM.out];exact Jc8 Kn.out.row Ka) Hj (by rw[Ko.out];exact Kr));have Y:=zI (show UnAt w5 g R from⟨Hi.out.bx.grown Hj (Hi.out.bx.not_row W.out.own (by decide))⟩);rw[Ky.out] at Y;clear Kr Hj t0 t1 t2 t3 t5 t4;go_wp2_with fail
       go_roundw
       case rel=>exact⟨k+1,d',ms++[⟨x,A,c⟩],by omega,by go_num,by rw[qaw,Hq.out,Kx.out];rfl,KX.out,Y.out⟩
       case measure=>simp[intOf]
  · have KY:d=0:=by omega
    subst KY;have KZ:k=n:=(by omega);subst KZ;have K7:=zI (show es.take k=es from by rw[HN.out,qa3]);have K8:=zI (show(es.drop k).flatMap enB++r=r from by rw[HN.out,List.drop_length];rfl);rw[K8.out] at y;rw[K7.out] at i;have K9:=zI hR;have Ta:=zI y;have Tb:=zI i;clear hR y i;go_wp2_with fail
    go_ret;exact⟨_,ms,rfl,Tb.out,K9.out,Ta.out⟩
end Go.Proofs.YtglmhddbhhcjdaaGreatDoor
