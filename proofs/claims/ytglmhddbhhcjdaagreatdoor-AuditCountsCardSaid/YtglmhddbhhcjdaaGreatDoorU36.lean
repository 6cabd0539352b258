/-
  Several texts in one: Cath, Catf.
-/
import Derived.Test.YtglmhddbhhcjdaaGreatDoorU35
import Derived.Test.YtglmhddbhhcjdaaGreatDoorU32
set_option maxRecDepth 100000
set_option linter.unusedSimpArgs false
set_option maxHeartbeats 4000000
namespace Go.Proofs.YtglmhddbhhcjdaaGreatDoor
open Go.RowKit
abbrev catG (g i:Nat) (now:Int) (nm:ByteArray) (A:Option Addr) (n c:Nat) (B:Option Addr) (q c2:Nat) (E:Option Addr) (en ec:Nat):Array Value:=
 #[.int .u64 (g:Int),.int .u64 (i:Int),.int .i64 now,.string nm,.slice A n c,.slice B q c2,.string ⟨#[]⟩,.slice none 0 0,.slice none 0 0,.int .i64 0,.int .i64 0,.slice E en ec]
abbrev zCat:Array Value:=#[.int .u64 0,.int .u64 0,.int .i64 0,.string ⟨#[]⟩,.slice none 0 0,.slice none 0 0,.string ⟨#[]⟩,.slice none 0 0,.slice none 0 0,.int .i64 0,.int .i64 0,.slice none 0 0]
structure CgS (w7 wr:World) (gu gc gr:Nat) (l:List UInt8) (cs:Array Value):Prop where
 un:UnAt wr gu l
 box:Bx wr gc 207 cs
 res:Bx wr gr 207 zCat
 chg:Chg (fun b=>b=gu\/b=gc) w7 wr
 ne:gr≠gu/\gr≠gc/\gu≠gc
section
variable {w7 wr w':World} {gu gc gr:Nat} {l r:List UInt8} {cs:Array Value}
theorem CgS.read(h:CgS w7 wr gu gc gr l cs)(hu:UnAt w' gu r)(hg:wr.grownBy w' (some gu)):CgS w7 w' gu gc gr r cs:=
 ⟨hu,h.box.grown hg (by have:=h.ne;simp;omega),h.res.grown hg (by have:=h.ne;simp;omega),h.chg.trans (Chg.of_grown (F:=fun b=>b=gu) hg (fun b e=>by cases e;rfl)) (fun b e=> .inl (.inl e)),h.ne⟩
theorem CgS.readC(h:CgS w7 wr gu gc gr l cs)(hu:UnAt w' gu r)(hg:Chg (fun b=>b=gu) wr w'):CgS w7 w' gu gc gr r cs:=
 ⟨hu,h.box.chg hg (by have:=h.ne;omega),h.res.chg hg (by have:=h.ne;omega),h.chg.trans hg (fun b e=> .inl (.inl e)),h.ne⟩
theorem CgS.below(h:CgS w7 wr gu gc gr l cs)(hb:Below wr.heap.size wr w'):CgS w7 w' gu gc gr l cs:=⟨h.un.below hb,h.box.below hb,h.res.below hb,h.chg.then_below hb,h.ne⟩
theorem CgS.row(h:CgS w7 wr gu gc gr l cs){B:Nat}{e:TypeId}{k n:Nat}{v:Value}{xs:List Value}(ho:wr.ownsRow B e k v n xs)(hg:wr.grownBy w' v.ownBlock)(hB:w7.heap.size<=B)(h3:330≠e)(h4:207≠e):CgS w7 w' gu gc gr l cs:=
 ⟨⟨h.un.bx.grown hg (h.un.bx.not_row ho h3)⟩,h.box.grown hg (h.box.not_row ho h4),h.res.grown hg (h.res.not_row ho h4),h.chg.trans (Chg.of_grown (F:=fun b=>v.ownBlock=some b) hg (fun _ e=>e)) (fun b e=> .inr (qap hB (ho.lt b e).1)),h.ne⟩
theorem CgS.re(h:CgS w7 wr gu gc gr l cs):CgS wr wr gu gc gr l cs:=⟨h.un,h.box,h.res,Chg.refl _ _,h.ne⟩
theorem CgS.set(h:CgS w7 wr gu gc gr l cs)(k:Nat)(v:Value):CgS w7 (wr.setCell ⟨gc,k,none⟩ v) gu gc gr l (cs.setIfInBounds k v):=
 ⟨⟨h.un.bx.other (p:=⟨gc,k,none⟩) (by have:=h.ne;show gu≠gc;omega) v⟩,h.box.set k v,h.res.other (p:=⟨gc,k,none⟩) (by have:=h.ne;show gr≠gc;omega) v,h.chg.trans (Chg.set (F:=fun b=>b=gc) wr ⟨gc,k,none⟩ v rfl) (fun b e=> .inl (.inr e)),h.ne⟩
end
structure Jh9 (g i:Nat) (now:Int) (nm:ByteArray) (ts:List Ti) (fl:List Int) (es:List En):Prop where
 hg:1<=g/\g<18446744073709551616
 hi:i<18446744073709551616
 hnow:0<=now/\now<=1099511627776
 hnm:nm.size<=maxLen
 hck:Py.checkR nm.toList ts=(0,0)
 hfn:fl.length=ts.length
 hflo:∀f∈fl,0<=f/\f<=4611686018427387904
 hen:es.length<=90
 hok:∀e∈es,e.Ok i
 hsh:(es.map fun e=>plit (e.tier:Int) (e.shard:Int)).Nodup
 hbl:(es.flatMap En.bl).Nodup
 hlen:(catB g i now (Py.printL nm.toList ts) fl es).length<=40000
theorem En.Ok.fit{x:En}{i:Nat}(h:x.Ok i)(hi:i<18446744073709551616):x.Fit:=⟨by have:=h.id;omega,h.tier,h.shard,h.len.2,h.bl⟩
theorem Jse(ms:List Em):shK ms=(ms.map Em.e).map fun e=>plit (e.tier:Int) (e.shard:Int):=by unfold shK;rw[qa5];rfl
theorem Jk8(ms:List Em):Jd8 ms=(ms.map Em.e).flatMap En.bl:=by unfold Jd8;rw[List.flatMap_map]
theorem EnRd.ems{w wr:World}{g:Nat}{ms:List Em}{v:Value}(h:EnRd w wr g ms v)(hok:∀m∈ms,(∀b∈m.e.bl,0<=b/\b<=4095)/\m.e.bl.length<=4096):∃E ec,v= .slice E ms.length ec/\Jh3 wr (made w wr) E ms.length ms:=by
 obtain⟨E,ec,rfl,x⟩:=Jaq h.own;refine⟨E,ec,rfl,x,rfl,fun m hm=>⟨?_,Jce (h.row m hm)⟩,Jce h.own⟩;obtain⟨_,_,e,y⟩:=Jaq (h.row m hm);cases e
 exact⟨y,rfl,by have:=(hok m hm).2;unfold maxLen;omega,fun z hz=>Jb7 (by have:=(hok m hm).1 z hz;omega)⟩
theorem Jzt(nm:ByteArray)(ts:List Ti)(n:Nat)(S:ByteArray)(w:World)(hS:S=strOf (Py.printL nm.toList ts))(hn:n=ts.length)(hck:Py.checkR nm.toList ts=(0,0))(hm:∃m:Int,w.cell? ⟨0,0,none⟩=some (.int .i64 m)):
  Calls Tryz.prog 39 #[.string S] w fun e w'=>(∃A c,e= .returned (.tuple #[polV nm A n c,.int .i64 0,.int .i64 0])/\Tis w' A n ts/\n<=c/\AIn (made w w') A)/\Below w.heap.size w w':=by
 subst hS hn;obtain⟨z,u,y,x,_⟩:=Py.check_fine hck;have X:=Py.read_any (strOf (Py.printL nm.toList ts)) w (by rw[Jab];have:=Py.print_len z x y;unfold maxLen;omega) hm;rw[show strOf (Py.printL nm.toList ts)=⟨(Py.printL nm.toList ts).toArray⟩ from rfl,Py.readT_print hck] at X;refine X.mono fun e w' ⟨⟨A,c,he,ho,hok,_,_⟩,hb⟩=>⟨⟨A,c,?_,?_,?_,Jce ho⟩,hb⟩
 · rw[he,Py.mk_toList]
 · obtain⟨A',c',e,v⟩:=Jii ho rfl hok (by unfold maxLen;omega);cases e;exact v
 · obtain⟨_,_,e,h,_⟩:=Py.own_slice ho;cases e;exact h
theorem J7f(g i:Nat)(now:Int)(nm:ByteArray)(ts:List Ti)(fl:List Int)(es:List En)(w:World)(hf:Jh9 g i now nm ts fl es)(hG:Glo w):
  Calls Tryz.prog 213 #[.string (strOf (catB g i now (Py.printL nm.toList ts) fl es))] w fun e w'=>∃A c B c2 E ec ms,e= .returned (.tuple #[.agg (Jaz g i now nm A ts.length c B c2 E es.length ec),.int .i64 0])/\ms.map Em.e=es/\
   Jgs w' (made w w') g i now nm A ts.length c B c2 E es.length ec ts fl ms/\AIn (made w w') A/\AIn (made w w') B/\Below w.heap.size w w':=by
 have L:=zI hf;obtain⟨P,hP⟩:∃P,P=Py.printL nm.toList ts:=⟨_,rfl⟩;have KH:P.length<=400:=by rw[hP];have:=Py.check_fine hf.hck;exact Py.print_len this.1 this.2.2.2.1 this.2.2.1
 obtain⟨n,hn⟩:∃n,n=ts.length:=⟨_,rfl⟩;obtain⟨en,d⟩:∃en,en=es.length:=⟨_,rfl⟩;have Pu:1<=n/\n<=5:=by rw[hn];have:=Py.check_fine hf.hck;exact⟨this.2.1,this.2.2.1⟩
 have Pq:en<=90:=by rw[d];exact hf.hen
 have KI:fl.length=n:=by rw[hn];exact hf.hfn
 obtain⟨L8,h8⟩:∃L8,L8=le 2 es.length++(es.flatMap enB++[]):=⟨_,rfl⟩;obtain⟨L7,h7⟩:∃L7,L7=le 8 (u64 0)++L8:=⟨_,rfl⟩;obtain⟨L6,h6⟩:∃L6,L6=le 8 (u64 0)++L7:=⟨_,rfl⟩;obtain⟨L5,h5⟩:∃L5,L5=txB []++L6:=⟨_,rfl⟩;obtain⟨L4,h4⟩:∃L4,L4=(fl.flatMap fun v=>le 8 (u64 v))++L5:=⟨_,rfl⟩;obtain⟨L3,h3⟩:∃L3,L3=txB P++L4:=⟨_,rfl⟩;obtain⟨L2,J⟩:∃L2,L2=le 8 (u64 now)++L3:=⟨_,rfl⟩;obtain⟨L1,K⟩:∃L1,L1=le 8 i++L2:=⟨_,rfl⟩
 have hL:catB g i now (Py.printL nm.toList ts) fl es=le 8 g++L1:=by
  rw[K,J,h3,h4,h5,h6,h7,h8,<- hP];unfold catB catH;simp only[qaj,qai]
 have I:=hf.hlen;rw[hL] at I;have k1:L1.length<=40000:=by rw[qac] at I;omega
 have k2:L2.length<=40000:=by rw[K,qac] at k1;omega
 have k3:L3.length<=40000:=by rw[J,qac] at k2;omega
 have k4:L4.length<=40000:=by rw[h3,qac] at k3;omega
 have k5:L5.length<=40000:=by rw[h4,qac] at k4;omega
 have k6:L6.length<=40000:=by rw[h5,qac] at k5;omega
 have k7:L7.length<=40000:=by rw[h6,qac] at k6;omega
 have k8:L8.length<=40000:=by rw[h7,qac] at k7;omega
 have TB:=zI k1;have TC:=zI k2;have TD:=zI k3;have TE:=zI k4;have TF:=zI k5;have TG:=zI k6;have TH:=zI k7;have KJ:=zI k8;have H1:=zI K;have H2:=zI J;have H3:=zI h3;have H4:=zI h4;have H5:=zI h5;have H6:=zI h6;have H7:=zI h7;have H8:=zI h8;have HP:=zI hP;have HN:=zI hn;have Kh:=zI d;have O:=zI KI;have TI:=zI hL;have TJ:=zI KH;obtain⟨gr,Ki⟩:∃gr,gr=w.heap.size:=⟨_,rfl⟩;obtain⟨w0,Ho⟩:∃w0,w0=w.alloc (.cells zCat 207):=⟨_,rfl⟩;have KK:Below w.heap.size w w0:=by rw[Ho];exact(qaa _ w).alloc (qab _) _
 have KL:Bx w0 gr 207 zCat:=by rw[Ho,Ki];exact Bx.new w _ _
 have H:=zI Ki;have TK:=zI Ho;have KM:=zI KK;have KN:=zI KL;have Kj:=zI hG;have KO:=zI (Jps (le 8 g++L1) w0 (by omega));rw[<- hn,<- d,hL];obtain⟨SS,Kk⟩:∃SS,SS=strOf (le 8 g++L1):=⟨_,rfl⟩;rw[<- Kk] at KO ⊢;have TL:=zI Kk;clear hf hP KH hn d KI K J h3 h4 h5 h6 h7 h8 hL I k1 k2 k3 k4 k5 k6 k7 k8 Ho KK KL Ki hG Kk;go_enter Tryz.func213,Tryz.ntmps213;go_upto_region 1 with fail
 rw[<- TK.out,<- H.out];go_wp2_with fail
 refine KO.out.mono ?_;rintro e w1 ⟨gu,rfl,Hx,KP,Kl⟩;have TM:=zI (KN.out.below Kl);have TN:=zI (KM.out.trans (Kl.mono KM.out.size));have Hp:=zI (show gr<gu from qa6 KN.out.lt Hx);have HW:=zI (Jh1 gu g L1 w1 KP L.out.hg.2 (by have:=TB.out;omega));clear Hx KP Kl;go_wp2_with fail
 refine HW.out.mono ?_;rintro e w2 ⟨rfl,Km,KQ⟩;rw[H1.out] at Km;have TO:=zI (Jh1 gu i L2 w2 Km L.out.hi (by have:=TC.out;omega));have TP:=zI (Chg.of_grown (F:=fun b=>b=gu) KQ (fun b e=>by cases e;rfl));clear Km KQ;go_wp2_with fail
 refine TO.out.mono ?_;rintro e w3 ⟨rfl,Kn,KR⟩;rw[H2.out] at Kn;have TQ:=zI (Jkr gu now L3 w3 Kn (by have:=L.out.hnow;omega) (by have:=TD.out;omega));have TR:=zI (TP.out.trans (Chg.of_grown (F:=fun b=>b=gu) KR (fun b e=>by cases e;rfl)) (fun _ x=> .inl x));clear Kn KR;go_wp2_with fail
 refine TQ.out.mono ?_;rintro e w4 ⟨rfl,Ko,KS⟩;have KT:=zI (TR.out.trans (Chg.of_grown (F:=fun b=>b=gu) KS (fun b e=>by cases e;rfl)) (fun _ x=> .inl x));have Pr:gu<w4.heap.size:=Ko.bx.lt;have Z:=(qaa w4.heap.size w4).alloc (qab _) (.cells (catG g i now ⟨#[]⟩ none 0 0 none 0 0 none 0 0) 207);obtain⟨gc,Kp⟩:∃gc,gc=w4.heap.size:=⟨_,rfl⟩;obtain⟨w5,N⟩:∃w5,w5=w4.alloc (.cells (catG g i now ⟨#[]⟩ none 0 0 none 0 0 none 0 0) 207):=⟨_,rfl⟩;have TT:=Hp.out
 have KU:CgS w5 w5 gu gc gr L3 (catG g i now ⟨#[]⟩ none 0 0 none 0 0 none 0 0):=by
  have TU:=TM.out.chg KT.out (by omega);refine⟨?_,?_,?_,Chg.refl _ _,by omega,by omega,by omega⟩
  · rw[N];exact Ko.below Z
  · rw[N,Kp];exact Bx.new w4 _ _
  · rw[N];exact TU.below Z
 have Hq:=zI (show Below w.heap.size w w5 from by
  rw[N];exact(Chg.after_below (F:=fun _=>False) TN.out (KT.out.then_below Z) (fun b e=> .inr (by rw[e];have:=Hp.out;have:=H.out;omega))).none)
 have Pv:=zI (Kj.out.below Hq.out);have KV:=zI Kp;have TV:=zI N;have KW:=zI KU;clear Ko KS Z N Kp KU;go_upto_region 3 with fail
 rw[<- TV.out,<- KV.out];have Hr:=zI (show ∀b,(b=gu\/b=gc) ->w.heap.size<=b from fun b hb=>by have K:=Hp.out;have J:=H.out;have h3:=KV.out;rcases hb with e | e<;>omega)
 have TW:=zI (Jpr gu P L4 w5 (by rw[<- H3.out];exact KW.out.un) (by have:=TJ.out;omega) (by have:=TE.out;omega));go_wp2_with fail
 refine TW.out.mono ?_;rintro e w6 ⟨rfl,KX,KY⟩;have Y:=zI (KW.out.read KX KY);have TX:=zI (Jzt nm ts n (strOf P) w6 (by rw[HP.out]) HN.out L.out.hck (Kj.out.below (Chg.madeF Hq.out Y.out.chg Hr.out)).m);clear KX KY;go_wp2_with fail
 refine TX.out.mono ?_;rintro e w7 ⟨⟨A,c,rfl,KZ,K7,Hs⟩,Kq⟩;have Z:=(qaa w7.heap.size w7).alloc (qab _) (.cells #[.string nm,.slice A n c] 101);obtain⟨gp,Kr⟩:∃gp,gp=w7.heap.size:=⟨_,rfl⟩;obtain⟨w8,Ht⟩:∃w8,w8=w7.alloc (.cells #[.string nm,.slice A n c] 101):=⟨_,rfl⟩;have Hu:=(Y.out.below Kq).below Z;have Ks:Bx (w7.alloc (.cells #[.string nm,.slice A n c] 101)) gp 101 #[.string nm,.slice A n c]:=by rw[Kr];exact Bx.new w7 _ _
 have Kt:=KZ.below Z;rw[<- Ht] at Hu Ks Kt;have TY:=zI Kr;have TZ:=zI Ht;have h:=zI Hu.re;have T6:=zI (show w7.heap.size<=w8.heap.size from by rw[Ht];simp);have Hv:=zI (Chg.madeF Hq.out Hu.chg Hr.out);have Ku:=zI Ks;have K8:=zI Kt;have K9:=zI K7
 have Ta:=zI (show AIn (fun b=> ¬ (b=gu\/b=gc)) A from fun a e=>by
  have K:=(Hs a e).1;have J:=Y.out.un.bx.lt;have h3:=Y.out.box.lt;rintro(e | e)<;>omega)
 have T7:=zI (show AIn (fun b=> ¬ b=gr) A from fun a e=>by
  have K:=(Hs a e).1;have J:=Y.out.res.lt;omega)
 have T8:=zI (show ∀W,w7.heap.size<=W.heap.size ->AIn (made w W) A from fun W hW a e=>by
  have K:=Hs a e;have J:=(Chg.madeF Hq.out Y.out.chg Hr.out).size;exact⟨by have:=K.1;omega,by have:=K.2;omega⟩)
 have Hy:=zI (show gp≠gc/\gp≠gu from by
  have J:=Y.out.un.bx.lt;have h3:=Y.out.box.lt;have h4:=Kq.size;omega)
 clear KZ K7 Hs Kq Z Kr Ht Hu Ks Kt;go_upto_region 4 with fail
 rw[<- TZ.out,<- TY.out];have p0:=Ku.out.at_ 0 (v:= .string nm) rfl;have p1:=Ku.out.at_ 1 (v:= .slice A n c) rfl;have f3:=h.out.box.free 3;have x3:=h.out.box.at_ 3 (v:= .string ⟨#[]⟩) rfl;have x4:=h.out.box.at_ 4 (v:= .slice none 0 0) rfl;have f4:=h.out.box.free 4;have Tb:=(h.out.set 3 (.string nm)).set 4 (.slice A n c);have Kv:=(Ku.out.other (p:=⟨gc,3,none⟩) Hy.out.1 (.string nm)).other (p:=⟨gc,4,none⟩) Hy.out.1 (.slice A n c);have Kw:=zI Tb;have T9:=zI Kv;have q1:=Kv.at_ 1 (v:= .slice A n c) rfl;clear Tb Kv;go_wp2_with fail
 clear q1 p0 p1 f3 f4 x3 x4;obtain⟨w9,Tc⟩:∃w9,w9=(w8.setCell ⟨gc,3,none⟩ (.string nm)).setCell ⟨gc,4,none⟩ (.slice A n c):=⟨_,rfl⟩;rw[<- Tc] at Kw T9 ⊢;clear Tc;have Td:=zI (show CgS w8 w9 gu gc gr (fl.flatMap (fun v=>le 8 (u64 v))++L5) (catG g i now nm A n c none 0 0 none 0 0) from by rw[<- H4.out];exact Kw.out);clear Kw;go_loopw [34] (fun j wr=>∃ (q:Nat) (B:Option Addr) (c2:Nat),q<=n/\j= .int .i64 (q:Int)/\CgS w8 wr gu gc gr ((fl.drop q).flatMap (fun v=>le 8 (u64 v))++L5) (catG g i now nm A n c B q c2 none 0 0)/\wr.ownsRow w8.heap.size 3 1 (.slice B q c2) q ((fl.take q).map (Value.int .i64))) (fun j _=>n - (intOf j).toNat)
 case atStart=>exact⟨0,none,0,qak _,rfl,Td.out,qax _ _ _ _⟩
 case round=>
  obtain⟨q,B,c2,hq,rfl,hS,hR⟩:=hrel;by_cases Pa:q<n
  · have Q:q<fl.length:=by rw[O.out];exact Pa
    have Te:=zI (show(fl.drop q).flatMap (fun v=>le 8 (u64 v))++L5=le 8 (u64 fl[q])++((fl.drop (q+1)).flatMap (fun v=>le 8 (u64 v))++L5) from by rw[qaz Q,qad,qaj]);have Pb:=zI (show fl.take (q+1)=fl.take q++[fl[q]] from qam Q);have HZ:=zI (L.out.hflo _ (qal Q))
    have Tf:=zI (show((fl.drop (q+1)).flatMap (fun v=>le 8 (u64 v))++L5).length<=900000 from by
     have:=TF.out;rw[qac,Je1 (fun v=>le 8 (u64 v)) 8 (fun a=>Ja0 8 _),qa1,O.out];omega)
    obtain⟨RR,Kx⟩:∃RR,RR=(fl.drop (q+1)).flatMap (fun v=>le 8 (u64 v))++L5:=⟨_,rfl⟩;rw[<- Kx] at Tf Te;have Pc:=zI Kx;rw[Te.out] at hS;generalize fl[q]'Q=z at*;have Ky:=(qaa wr.heap.size wr).drew;have Kz:=zI (hS.below Ky);have Tg:=zI (Jai hR Ky);have t5:=hS.box.at_ 5 (v:= .slice B q c2) rfl;have t5':=Kz.out.box.at_ 5 (v:= .slice B q c2) rfl;have Pd:=zI (Jkr gu z RR wr.drew Kz.out.un (by have:=HZ.out;omega) Tf.out);have Pe:=zI (show q+1<=1000000 from by omega);have T:=zI (show gu<w8.heap.size/\gc<w8.heap.size from⟨h.out.un.bx.lt,h.out.box.lt⟩);clear hS hR Ky Kx;go_wp2_with fail
    go_region_law (first
     | (refine Jw1 (by rfl) _ _ (by rfl) Th.out (by rfl) (some ⟨w8'.heap.size,0,none⟩) 1 1 [.int .i64 z] (by rfl) rfl Pf.out Pg.out Pe.out Ph.out ?_
        intro A7 c7 w9' KC Tj;have X9:=zI (show CgS w8 w9' gu gc gr RR (catG g i now nm A n c B q c2 none 0 0) from KD.out.row Th.out Tj (qab _) (by decide) (by decide));have d8:=X9.out.box.at_ 5 (v:= .slice B q c2) rfl;have f8:=X9.out.box.free 5)
     | (go_simp
        go_at_call 141
        refine Pd.out.mono ?_;rintro e w8' ⟨rfl,Tk,KE⟩;have G:=(qaa w8'.heap.size w8').alloc (qab _) (.cells #[.int .i64 z] 3);have Tm:=zI (Kz.out.read Tk KE);have KD:=zI (Tm.out.below G);have Th:=zI (Jai (Tg.out.kept KE (.inr fun e=>by have:=(Tg.out.lt _ e).1;have:=T.out;omega)) G);have Pf:=zI (Sl.new w8' 3 w8'.heap.size [.int .i64 z] #[.int .i64 z] rfl rfl);have Pg:=zI (show ∀u∈[Value.int .i64 z],u.oneCell'=true from by intro u hu;rw[qag.1 hu];rfl);have Ph:=zI (show w8.heap.size<=(w8'.alloc (.cells #[.int .i64 z] 3)).heap.size from KD.out.chg.size);have d6:=Tm.out.box.at_ 5 (v:= .slice B q c2) rfl;have d7:=KD.out.box.at_ 5 (v:= .slice B q c2) rfl;clear Tk KE G))
    all_goals
     have Tn:=zI (X9.out.set 5 (.slice A7 (q+1) c7))
     have Pi:=zI (show(w9'.setCell ⟨gc,5,none⟩ (.slice A7 (q+1) c7)).ownsRow w8.heap.size 3 1 (.slice A7 (q+1) c7) (q+1) ((fl.take (q+1)).map (Value.int .i64)) from by
      rw[Pb.out,qaw];exact KC.kept (Jal w9' gc 5 _) (.inr fun e=>(X9.out.box.not_row KC (by decide)) e.symm))
     rw[Pc.out] at Tn;clear KC Tj;go_wp2_with fail
     go_roundw
     case rel=>exact⟨q+1,A7,c7,by omega,by go_num,Tn.out,Pi.out⟩
     case measure=>simp[intOf];omega
  · have M:q=n:=by omega
    have Pj:=zI (show(fl.drop q).flatMap (fun v=>le 8 (u64 v))++L5=L5 from by rw[M,<- O.out,List.drop_length];rfl);have Pk:=zI (show fl.take q=fl from by rw[M,<- O.out,qa3]);rw[Pj.out,M] at hS;rw[Pk.out,M] at hR;rw[M];clear M;obtain⟨wo,To⟩:∃wo:World,wo=wr:=⟨_,rfl⟩;rw[<- To] at hS hR ⊢;have HS:=zI hS;have HR:=zI hR;clear hS hR To;have Tp:=zI (show Calls Tryz.prog 277 #[.pointer (some ⟨gu,0,none⟩)] wo fun e w'=>e= .returned (.string ⟨#[]⟩)/\UnAt w' gu L6/\wo.grownBy w' (some gu) from Jpr gu [] L6 wo (by rw[<- H5.out];exact HS.out.un) (by simp) (by have:=TG.out;omega));have T:=zI (show gu<w8.heap.size/\gc<w8.heap.size from⟨h.out.un.bx.lt,h.out.box.lt⟩);go_wp2_with fail
    refine Tp.out.mono ?_;rintro e w10 ⟨rfl,Hz,D⟩;have R:=zI (HS.out.read Hz D);have C:=zI (HR.out.kept D (.inr fun e=>by have:=(HR.out.lt _ e).1;have:=T.out;omega));clear Hz D Tp;have x7:=R.out.box.at_ 7 (v:= .slice none 0 0) rfl;go_wp2_with fail
    clear x7;obtain⟨wq,Tq⟩:∃wq:World,wq=w10:=⟨_,rfl⟩;rw[<- Tq] at R C ⊢;clear Tq;go_loopw [75] (fun j wr=>j= .int .i64 0/\wq=wr) (fun _ _=>0)
    case atStart=>exact⟨rfl,rfl⟩
    case round=>
     obtain⟨rfl,hw⟩:=hrel;subst hw;have Tr:=zI (Jkr gu 0 L7 wq (by rw[<- H6.out];exact R.out.un) (by omega) (by have:=TH.out;omega));go_wp2_with fail
     refine Tr.out.mono ?_;rintro e w11 ⟨rfl,H0,hJ⟩;have H9:=zI (R.out.read H0 hJ);have Ka:=zI (C.out.kept hJ (.inr fun e=>by have:=(C.out.lt _ e).1;have:=T.out;omega));have Ts:=zI (Jkr gu 0 L8 w11 (by rw[<- H7.out];exact H9.out.un) (by omega) (by have:=KJ.out;omega));clear H0 hJ Tr;go_wp2_with fail
     refine Ts.out.mono ?_;rintro e w12 ⟨rfl,Kb,Ha⟩;have o:=H9.out.read Kb Ha;have Hb:=Ka.out.kept Ha (.inr fun e=>by have:=(Ka.out.lt _ e).1;have:=T.out;omega);have x9:=o.box.at_ 9 (v:= .int .i64 0) rfl;have x10:=o.box.at_ 10 (v:= .int .i64 0) rfl;have f9:=o.box.free 9;have f10:=o.box.free 10;have V:=zI (show CgS w8 ((w12.setCell ⟨gc,9,none⟩ (.int .i64 0)).setCell ⟨gc,10,none⟩ (.int .i64 0)) gu gc gr L8 (catG g i now nm A n c B n c2 none 0 0) from(o.set 9 (.int .i64 0)).set 10 (.int .i64 0));have S:=(o.box.not_row Hb (by decide));have Hc:=zI ((Hb.kept (Jal w12 gc 9 (.int .i64 0)) (.inr fun e=>S e.symm)).kept (Jal (w12.setCell ⟨gc,9,none⟩ (.int .i64 0)) gc 10 (.int .i64 0)) (.inr fun e=>S e.symm));clear Kb Ha Ts o Hb S;go_wp2_with fail
     obtain⟨w13,Kc⟩:∃w13,w13=(w12.setCell ⟨gc,9,none⟩ (.int .i64 0)).setCell ⟨gc,10,none⟩ (.int .i64 0):=⟨_,rfl⟩;rw[<- Kc] at V Hc ⊢;clear Kc x9 x10 f9 f10;have Pn:=zI (Jsd gu es [] w13 (by rw[<- H8.out];exact V.out.un) (fun e he=>(L.out.hok e he).fit L.out.hi) L.out.hen (by have:=KJ.out;rw[H8.out,qac] at this;omega));refine Pn.out.mono ?_;rintro e w14 ⟨v,ms,rfl,Hw,Hd,Kd⟩;have d:ms.length=en:=(by rw[Kh.out,<- Hw,qaq])
     obtain⟨E,ec,rfl,KG⟩:=Hd.ems (fun m hm=>by
      have he:m.e∈es:=by rw[<- Hw];exact qa7.2 ⟨m,hm,rfl⟩
      exact⟨(L.out.hok _ he).bl,(L.out.hok _ he).len.2⟩)
     rw[d] at KG;rw[d];have U:=V.out.readC Kd Hd.chg;have He:=Jav Hc.out Hd.chg (Jzs Hc.out T.out.1);have x11:=U.box.at_ 11 (v:= .slice none 0 0) rfl;have f11:=U.box.free 11;have Hf:=(U.box.not_row He (by decide));have t:=zI (show CgS w8 (w14.setCell ⟨gc,11,none⟩ (.slice E en ec)) gu gc gr [] (Jaz g i now nm A n c B c2 E en ec) from U.set 11 (.slice E en ec));have Hg:=zI (He.kept (Jal w14 gc 11 (.slice E en ec)) (.inr fun e=>Hf e.symm))
     have Hh:=zI (KG.chg (Chg.set (F:=fun b=>b=gc) w14 ⟨gc,11,none⟩ (.slice E en ec) rfl) (fun b hb e=>by
      have K:=hb.1;have J:=V.out.box.lt;omega))
     have k:=zI Hw;have Hi:=zI (show w8.heap.size<=w13.heap.size/\w13.heap.size<=w14.heap.size from⟨V.out.chg.size,Hd.chg.size⟩);clear Hw Hd Kd KG U He Hf d;go_wp2_with fail
     obtain⟨w15,Hj⟩:∃w15,w15=w14.setCell ⟨gc,11,none⟩ (.slice E en ec):=⟨_,rfl⟩;have Hk:=zI (show w14.heap.size=w15.heap.size from by rw[Hj];simp);rw[<- Hj] at t Hg Hh ⊢;clear Hj x11 f11;refine(Jrz gu [] w15 t.out.un).mono ?_;rintro e w15' ⟨rfl,hw⟩;subst hw;have Hl:=zI (Chg.madeF Hv.out t.out.chg Hr.out)
     have Po:=zI (show Jgs w15 (made w w15) g i now nm A n c B c2 E en ec ts fl ms from by
      have f:=L.out;have Pp:=Hl.out.size;have Tt:=Hv.out.size;have hz:=Hi.out;have Tu:=Hk.out;refine⟨f.hg,f.hi,f.hnow,f.hnm,K8.out.chg t.out.chg Ta.out,K9.out,f.hck,?_,f.hflo,Hh.out.sub (fun b hb=>⟨by have:=hb.1;omega,by have:=hb.2;omega⟩),by have:=f.hen;rw[Kh.out];exact this,fun m hm=>f.hok _ (by rw[<- k.out];exact qa7.2 ⟨m,hm,rfl⟩),by rw[Jse,k.out];exact f.hsh,by rw[Jk8,k.out];exact f.hbl,by rw[k.out];exact f.hlen⟩;obtain⟨_,_,e,hh⟩:=Jaq Hg.out;cases e
      exact⟨hh,O.out,by unfold maxLen;omega,fun z hz=>Jb7 (by have:=f.hflo z hz;omega)⟩)
     have Tw:=zI (Jzr g i now nm A n c B c2 E en ec ts fl ms w15 Po.out (Kj.out.below Hl.out));rw[k.out,TI.out,<- TL.out] at Tw;obtain⟨x0,x1,x2,x3,x4,x5,x6,x7,x8,x9,x10,x11⟩:=Jbi t.out.box;go_wp2_with fail
     refine Tw.out.mono ?_;rintro e w16 ⟨rfl,s⟩;have Tx:=zI ((K8.out.chg t.out.chg Ta.out).below s);have Ty:=zI (Hh.out.below s);have Tz:=zI (Hl.out.trans (s.mono Hl.out.size));have TA:=zI (t.out.box.below s);have Ke:=zI (t.out.res.below s);have Hm:=zI (Jai Hg.out s);have Kf:=zI s.size;clear s x0 x1 x2 x3 x4 x5 x6 x7 x8 x9 x10 x11;obtain⟨x0,x1,x2,x3,x4,x5,x6,x7,x8,x9,x10,x11⟩:=Jbi TA.out;have r:=Ke.out;have y0:=r.at_ 0 rfl;have y1:=r.at_ 1 rfl;have y2:=r.at_ 2 rfl;have y3:=r.at_ 3 rfl;have y4:=r.at_ 4 rfl;have y5:=r.at_ 5 rfl;have y6:=r.at_ 6 rfl;have y7:=r.at_ 7 rfl;have y8:=r.at_ 8 rfl;have y9:=r.at_ 9 rfl;have y10:=r.at_ 10 rfl;have y11:=r.at_ 11 rfl;have f0:=r.free 0;have f1:=r.free 1;have f2:=r.free 2;have f3:=r.free 3;have f4:=r.free 4;have f5:=r.free 5;have f6:=r.free 6;have f7:=r.free 7;have f8:=r.free 8;have f9:=r.free 9;have f10:=r.free 10;have f11:=r.free 11;clear r;go_wp2_with fail
     clear x0 x1 x2 x3 x4 x5 x6 x7 x8 x9 x10 x11 y0 y1 y2 y3 y4 y5 y6 y7 y8 y9 y10 y11 f0 f1 f2 f3 f4 f5 f6 f7 f8 f9 f10 f11;obtain⟨w17,Hn⟩:∃w17,w17=putC w16 gr 0 [.int .u64 (g:Int),.int .u64 (i:Int),.int .i64 now,.string nm,.slice A n c,.slice B n c2,.string ByteArray.empty,.slice none 0 0,.slice none 0 0,.int .i64 0,.int .i64 0,.slice E en ec]:=⟨_,rfl⟩;have y:=Ja6 Ke.out [.int .u64 (g:Int),.int .u64 (i:Int),.int .i64 now,.string nm,.slice A n c,.slice B n c2,.string ByteArray.empty,.slice none 0 0,.slice none 0 0,.int .i64 0,.int .i64 0,.slice E en ec] rfl;have Kg:=Jan (B:=w.heap.size) [.int .u64 (g:Int),.int .u64 (i:Int),.int .i64 now,.string nm,.slice A n c,.slice B n c2,.string ByteArray.empty,.slice none 0 0,.slice none 0 0,.int .i64 0,.int .i64 0,.slice E en ec] (show w.heap.size<=gr from Nat.le_of_eq H.out.symm) w16 0;have l:=Jci (g:=gr) [.int .u64 (g:Int),.int .u64 (i:Int),.int .i64 now,.string nm,.slice A n c,.slice B n c2,.string ByteArray.empty,.slice none 0 0,.slice none 0 0,.int .i64 0,.int .i64 0,.slice E en ec] w16 0;rw[<- Hn] at y Kg l;simp only[putC,qay,Nat.reduceAdd] at Hn;rw[<- Hn];have q0:=y.at_ 0 rfl;have q1:=y.at_ 1 rfl;have q2:=y.at_ 2 rfl;have q3:=y.at_ 3 rfl;have q4:=y.at_ 4 rfl;have q5:=y.at_ 5 rfl;have q6:=y.at_ 6 rfl;have q7:=y.at_ 7 rfl;have q8:=y.at_ 8 rfl;have q9:=y.at_ 9 rfl;have q10:=y.at_ 10 rfl;have q11:=y.at_ 11 rfl;refine qa8 (v:= .tuple #[.agg (Jaz g i now nm A n c B c2 E en ec),.int .i64 0]) (by simp[results,Tryz.results213,go_sem,q0,q1,q2,q3,q4,q5,q6,q7,q8,q9,q10,q11]) rfl ⟨A,c,B,c2,E,ec,ms,rfl,k.out,?_,?_,?_,Tz.out.trans Kg⟩
     · have f:=L.out
       have Pp:=Hl.out.size;have Tt:=Hv.out.size;have hz:=Hi.out;have Tu:=Hk.out;have Ps:=Kf.out;have Pt:=l.size;have Pw:=H.out;have TT:=Hp.out;have Px:=T.out;refine⟨f.hg,f.hi,f.hnow,f.hnm,Tx.out.chg l T7.out,K9.out,f.hck,?_,f.hflo,(Ty.out.chg l (fun b hb e=>by have:=hb.1;omega)).sub (fun b hb=>⟨by have:=hb.1;omega,by have:=hb.2;omega⟩),by have:=f.hen;rw[Kh.out];exact this,fun m hm=>f.hok _ (by rw[<- k.out];exact qa7.2 ⟨m,hm,rfl⟩),by rw[Jse,k.out];exact f.hsh,by rw[Jk8,k.out];exact f.hbl,by rw[k.out];exact f.hlen⟩;obtain⟨_,_,e,hh⟩:=Jaq (Jav Hm.out l (fun b hb e=>by have:=(Hm.out.lt b hb).1;omega));cases e
       exact⟨hh,O.out,by unfold maxLen;omega,fun z hz=>Jb7 (by have:=f.hflo z hz;omega)⟩
     · exact T8.out _ (by have K:=Hi.out;have J:=Hk.out;have h3:=Kf.out;have h4:=l.size;have h5:=T6.out;omega)
     · intro a e
       subst e;have h0:=Hm.out.lt a.block rfl;have h4:=l.size;have Tt:=Hv.out.size;exact⟨by omega,by omega⟩
theorem J8v{F:Nat ->Prop}{g room:Nat}{t:Tv}(w:World)(h:StAt w F g room t)(h3:t.tabs.length<=1000):
  Calls Tryz.prog 313 #[.pointer (some ⟨g,0,none⟩)] w fun e w'=>∃A c B c2,e= .returned (.tuple #[.agg (Jaz 1 1 t.r.now t.r.nm A t.tabs.length c B c2 none 0 0),.int .i64 0])/\
   Tis w' A t.tabs.length t.r.ts/\t.tabs.length<=c/\AIn (made w w') A/\w'.ownsRow w.heap.size 3 1 (.slice B t.tabs.length c2) t.tabs.length (t.r.all.map (Value.int .i64))/\Below w.heap.size w w':=by
 have N:=(qaa w.heap.size w).alloc (qab _) (.cells zCat 207);have Ha:=Bx.new w 207 zCat;have HT:=zI (Jeo _ (h.below N));have Hk:=zI (fun W (hW:Below w.heap.size w W)=>Jhc W (h.below hW));have Hb:=zI N;have Hl:=zI Ha;clear N Ha h;go_enter Tryz.func313,Tryz.ntmps313;go_wp2_with fail
 refine HT.out.mono ?_;rintro e w1 ⟨gt,rfl,Hc,M⟩;obtain⟨A,c,B,m,d,L,cl,ga,gm,hX,K,Hm⟩:=Hc.tabs;obtain⟨n,hn⟩:∃n,n=t.tabs.length:=⟨_,rfl⟩;rw[<- hn] at hX K h3;have J:=(qaa w1.heap.size w1).drew;have T:=zI hX;have Hw:=zI (hX.below J);have Hn:=zI J;have Hd:=zI (fun W (hW:Below w1.heap.size w1 W)=>(Jos t.r.nm A n c t.r.ts W (K.ts.below hW) (by omega)).mono (fun e w' (h:∃A' c',e= .returned (polV t.r.nm A' n c')/\w'.ownsRow W.heap.size 167 4 (.slice A' n c') n (t.r.ts.flatMap Ti.cells)/\Below W.heap.size W w')=>(show(∃A' c',e= .returned (polV t.r.nm A' n c')/\w'.ownsRow W.heap.size 167 4 (.slice A' n c') n (t.r.ts.flatMap Ti.cells)/\Below W.heap.size W w')/\Below w1.heap.size w1 w' from⟨h,by obtain⟨_,_,_,_,k⟩:=h;exact hW.trans (k.mono hW.size)⟩)));have He:=zI (fun W (hW:Below w1.heap.size w1 W)=>(J6h A n c B m d t.r W (K.below hW) h3).mono (fun e w' (h:∃v,e= .returned v/\w'.ownsRow W.heap.size 3 1 v n (t.r.all.map (Value.int .i64))/\Below W.heap.size W w')=>(show(∃v,e= .returned v/\w'.ownsRow W.heap.size 3 1 v n (t.r.all.map (Value.int .i64))/\Below W.heap.size W w')/\Below w1.heap.size w1 w' from⟨h,by obtain⟨_,_,_,k⟩:=h;exact hW.trans (k.mono hW.size)⟩)));have Hf:=zI (Hb.out.trans (M.mono Hb.out.size));have O:=zI (Hl.out.below M);have Ho:=zI K.ts.ok;have Hp:=zI K.ts.len;have Hq:=zI K.ts.n_le;have HN:=zI hn;have s:=zI (fun (W:World) (hS:Below w1.heap.size w1 W)=>(show W.cell? ⟨gt,0,none⟩=some (.int .i64 t.r.now)/\W.cell? ⟨gt,1,none⟩=some (.string t.r.nm)/\W.cell? ⟨gt,2,none⟩=some (.slice A n c)/\W.cell? ⟨gt,3,none⟩=some (.slice B m d)/\Below w1.heap.size w1 W from⟨(T.out.below hS).at_ 0 rfl,(T.out.below hS).at_ 1 rfl,(T.out.below hS).at_ 2 rfl,(T.out.below hS).at_ 3 rfl,hS⟩));have K0:=zI (s.out _ Hn.out);have K0a:=zI (s.out _ ((qaa w1.heap.size w1).alloc (qab _) (.cells zCat 207)).drew);clear hX K Hm Hc hn J M;go_upto_region 4 with fail
 go_cut [5] (fun s5 wx=>∃gc A' c' B' d',s5= .pointer (some ⟨gc,0,none⟩)/\Bx wx gc 207 (catG 1 1 t.r.now t.r.nm A' n c' B' n d' none 0 0)/\wx.ownsRow w1.heap.size 167 4 (.slice A' n c') n (t.r.ts.flatMap Ti.cells)/\wx.ownsRow w1.heap.size 3 1 (.slice B' n d') n (t.r.all.map (Value.int .i64))/\Below w1.heap.size w1 wx)
 case first =>
  go_region_held3 (fun w'=>w'.cell? ⟨gt,0,none⟩=some (.int .i64 t.r.now)/\w'.cell? ⟨gt,1,none⟩=some (.string t.r.nm)/\w'.cell? ⟨gt,2,none⟩=some (.slice A n c)/\w'.cell? ⟨gt,3,none⟩=some (.slice B m d)/\Below w1.heap.size w1 w')
   (first
     | with_reducible exact K0.out
     | with_reducible exact K0a.out
     | with_reducible exact K2.out
     | with_reducible exact K2a.out
     | with_reducible exact K3.out
     | with_reducible exact K3a.out
     | with_reducible exact K4.out)
   (first
     | (go_at_call 171
        refine(Hd.out _ ?hv).mono ?_
        case hv=>(go_split_ands;assumption)
        rintro e w2 ⟨⟨A',c',rfl,I,Hg⟩,j⟩;have Y:=zI j;have K2:=zI (s.out _ j);have K2a:=zI (s.out _ (j.alloc j.size (.cells zCat 207))))
     | (go_at_call 374
        refine(He.out _ ?hv).mono ?_
        case hv=>(go_split_ands;assumption)
        rintro e w3 ⟨⟨v,rfl,S,f⟩,i⟩;obtain⟨B',d',rfl,Hv⟩:=Jaq S;have R:=zI i;have K3:=zI (s.out _ i);have K3a:=zI (s.out _ (i.alloc i.size (.cells zCat 207)))
        first
        | (have Hr:Below w1.drew.heap.size w1.drew w2:=by with_reducible exact Hg
           have Hs:Below w2.heap.size w2 w3:=(by with_reducible exact f);clear Hr Hs;have o:=Jai I f;have U:=(qaa w3.heap.size w3).alloc (qab _) (.cells #[.int .u64 1,.int .u64 1,.int .i64 t.r.now,.string t.r.nm,.slice A' n c',.slice B' n d',.string ⟨#[]⟩,.slice none 0 0,.slice none 0 0,.int .i64 0,.int .i64 0,.slice none 0 0] 207);have q:=Jc8 o (show w1.heap.size<=_ from by simp);have p:=Jc8 S (show w1.heap.size<=_ from by have H:=Y.out.size;omega)
           have l:=zI (show Bx (w3.alloc (.cells #[.int .u64 1,.int .u64 1,.int .i64 t.r.now,.string t.r.nm,.slice A' n c',.slice B' n d',.string ⟨#[]⟩,.slice none 0 0,.slice none 0 0,.int .i64 0,.int .i64 0,.slice none 0 0] 207)) w3.heap.size 207 (catG 1 1 t.r.now t.r.nm A' n c' B' n d' none 0 0)/\(w3.alloc (.cells #[.int .u64 1,.int .u64 1,.int .i64 t.r.now,.string t.r.nm,.slice A' n c',.slice B' n d',.string ⟨#[]⟩,.slice none 0 0,.slice none 0 0,.int .i64 0,.int .i64 0,.slice none 0 0] 207)).ownsRow w1.heap.size 167 4 (.slice A' n c') n (t.r.ts.flatMap Ti.cells)/\(w3.alloc (.cells #[.int .u64 1,.int .u64 1,.int .i64 t.r.now,.string t.r.nm,.slice A' n c',.slice B' n d',.string ⟨#[]⟩,.slice none 0 0,.slice none 0 0,.int .i64 0,.int .i64 0,.slice none 0 0] 207)).ownsRow w1.heap.size 3 1 (.slice B' n d') n (t.r.all.map (Value.int .i64))/\Below w1.heap.size w1 (w3.alloc (.cells #[.int .u64 1,.int .u64 1,.int .i64 t.r.now,.string t.r.nm,.slice A' n c',.slice B' n d',.string ⟨#[]⟩,.slice none 0 0,.slice none 0 0,.int .i64 0,.int .i64 0,.slice none 0 0] 207)) from
            ⟨Bx.new w3 _ _,Jai q U,Jai p U,R.out.trans (U.mono R.out.size)⟩)
           have K4:=zI (s.out _ l.out.2.2.2);clear o U q p)
        | (have V:=(by with_reducible exact(Bx.new w2 207 zCat).below f)
           have o:=Jai (Jai I ((qaa w2.heap.size w2).alloc (qab _) (.cells zCat 207))) f;have z:Bx w3 w2.heap.size 207 zCat:=V;have f0:=z.free 0;have z0:=z.at_ 0 rfl;have f1:=z.free 1;have z1:=z.at_ 1 rfl;have f2:=z.free 2;have z2:=z.at_ 2 rfl;have f3:=z.free 3;have z3:=z.at_ 3 rfl;have f4:=z.free 4;have z4:=z.at_ 4 rfl;have f5:=z.free 5;have z5:=z.at_ 5 rfl;have f6:=z.free 6;have z6:=z.at_ 6 rfl;have f7:=z.free 7;have z7:=z.at_ 7 rfl;have f8:=z.free 8;have z8:=z.at_ 8 rfl;have f9:=z.free 9;have z9:=z.at_ 9 rfl;have f10:=z.free 10;have z10:=z.at_ 10 rfl;have f11:=z.free 11;have z11:=z.at_ 11 rfl;have U:=Jan (B:=w1.heap.size) (g:=w2.heap.size) [.int .u64 1,.int .u64 1,.int .i64 t.r.now,.string t.r.nm,.slice A' n c',.slice B' n d',.string ⟨#[]⟩,.slice none 0 0,.slice none 0 0,.int .i64 0,.int .i64 0,.slice none 0 0] (by have H:=Y.out.size;omega) w3 0;have G:=Jci (g:=w2.heap.size) [.int .u64 1,.int .u64 1,.int .i64 t.r.now,.string t.r.nm,.slice A' n c',.slice B' n d',.string ⟨#[]⟩,.slice none 0 0,.slice none 0 0,.int .i64 0,.int .i64 0,.slice none 0 0] w3 0;have q:=Jc8 o (show w1.heap.size<=_ from by simp);have p:=Jc8 S (show w1.heap.size<=_ from by have H:=Y.out.size;simp;try omega)
           have l:=zI (show Bx (putC w3 w2.heap.size 0 [.int .u64 1,.int .u64 1,.int .i64 t.r.now,.string t.r.nm,.slice A' n c',.slice B' n d',.string ⟨#[]⟩,.slice none 0 0,.slice none 0 0,.int .i64 0,.int .i64 0,.slice none 0 0]) w2.heap.size 207 (catG 1 1 t.r.now t.r.nm A' n c' B' n d' none 0 0)/\(putC w3 w2.heap.size 0 [.int .u64 1,.int .u64 1,.int .i64 t.r.now,.string t.r.nm,.slice A' n c',.slice B' n d',.string ⟨#[]⟩,.slice none 0 0,.slice none 0 0,.int .i64 0,.int .i64 0,.slice none 0 0]).ownsRow w1.heap.size 167 4 (.slice A' n c') n (t.r.ts.flatMap Ti.cells)/\(putC w3 w2.heap.size 0 [.int .u64 1,.int .u64 1,.int .i64 t.r.now,.string t.r.nm,.slice A' n c',.slice B' n d',.string ⟨#[]⟩,.slice none 0 0,.slice none 0 0,.int .i64 0,.int .i64 0,.slice none 0 0]).ownsRow w1.heap.size 3 1 (.slice B' n d') n (t.r.all.map (Value.int .i64))/\Below w1.heap.size w1 (putC w3 w2.heap.size 0 [.int .u64 1,.int .u64 1,.int .i64 t.r.now,.string t.r.nm,.slice A' n c',.slice B' n d',.string ⟨#[]⟩,.slice none 0 0,.slice none 0 0,.int .i64 0,.int .i64 0,.slice none 0 0]) from
            ⟨Ja6 z [.int .u64 1,.int .u64 1,.int .i64 t.r.now,.string t.r.nm,.slice A' n c',.slice B' n d',.string ⟨#[]⟩,.slice none 0 0,.slice none 0 0,.int .i64 0,.int .i64 0,.slice none 0 0] rfl,Jav q G (fun b k e=>(z.not_row q (by decide)) (by rw[k,e])),Jav p G (fun b k e=>(z.not_row p (by decide)) (by rw[k,e])),R.out.trans U⟩)
           have K4:=zI (s.out _ l.out.2.2.2);simp only[putC,qay,Nat.reduceAdd] at l K4;clear V o U G q p)
        | (have V:=(by with_reducible exact((Bx.new w1 207 zCat).drew.below Hg).below f)
           have o:=Jai I f;have z:Bx w3 w1.heap.size 207 zCat:=V;have f0:=z.free 0;have z0:=z.at_ 0 rfl;have f1:=z.free 1;have z1:=z.at_ 1 rfl;have f2:=z.free 2;have z2:=z.at_ 2 rfl;have f3:=z.free 3;have z3:=z.at_ 3 rfl;have f4:=z.free 4;have z4:=z.at_ 4 rfl;have f5:=z.free 5;have z5:=z.at_ 5 rfl;have f6:=z.free 6;have z6:=z.at_ 6 rfl;have f7:=z.free 7;have z7:=z.at_ 7 rfl;have f8:=z.free 8;have z8:=z.at_ 8 rfl;have f9:=z.free 9;have z9:=z.at_ 9 rfl;have f10:=z.free 10;have z10:=z.at_ 10 rfl;have f11:=z.free 11;have z11:=z.at_ 11 rfl;have U:=Jan (B:=w1.heap.size) (g:=w1.heap.size) [.int .u64 1,.int .u64 1,.int .i64 t.r.now,.string t.r.nm,.slice A' n c',.slice B' n d',.string ⟨#[]⟩,.slice none 0 0,.slice none 0 0,.int .i64 0,.int .i64 0,.slice none 0 0] (by have H:=Y.out.size;omega) w3 0;have G:=Jci (g:=w1.heap.size) [.int .u64 1,.int .u64 1,.int .i64 t.r.now,.string t.r.nm,.slice A' n c',.slice B' n d',.string ⟨#[]⟩,.slice none 0 0,.slice none 0 0,.int .i64 0,.int .i64 0,.slice none 0 0] w3 0;have q:=Jc8 o (show w1.heap.size<=_ from by simp);have p:=Jc8 S (show w1.heap.size<=_ from by have H:=Y.out.size;simp;try omega)
           have l:=zI (show Bx (putC w3 w1.heap.size 0 [.int .u64 1,.int .u64 1,.int .i64 t.r.now,.string t.r.nm,.slice A' n c',.slice B' n d',.string ⟨#[]⟩,.slice none 0 0,.slice none 0 0,.int .i64 0,.int .i64 0,.slice none 0 0]) w1.heap.size 207 (catG 1 1 t.r.now t.r.nm A' n c' B' n d' none 0 0)/\(putC w3 w1.heap.size 0 [.int .u64 1,.int .u64 1,.int .i64 t.r.now,.string t.r.nm,.slice A' n c',.slice B' n d',.string ⟨#[]⟩,.slice none 0 0,.slice none 0 0,.int .i64 0,.int .i64 0,.slice none 0 0]).ownsRow w1.heap.size 167 4 (.slice A' n c') n (t.r.ts.flatMap Ti.cells)/\(putC w3 w1.heap.size 0 [.int .u64 1,.int .u64 1,.int .i64 t.r.now,.string t.r.nm,.slice A' n c',.slice B' n d',.string ⟨#[]⟩,.slice none 0 0,.slice none 0 0,.int .i64 0,.int .i64 0,.slice none 0 0]).ownsRow w1.heap.size 3 1 (.slice B' n d') n (t.r.all.map (Value.int .i64))/\Below w1.heap.size w1 (putC w3 w1.heap.size 0 [.int .u64 1,.int .u64 1,.int .i64 t.r.now,.string t.r.nm,.slice A' n c',.slice B' n d',.string ⟨#[]⟩,.slice none 0 0,.slice none 0 0,.int .i64 0,.int .i64 0,.slice none 0 0]) from
            ⟨Ja6 z [.int .u64 1,.int .u64 1,.int .i64 t.r.now,.string t.r.nm,.slice A' n c',.slice B' n d',.string ⟨#[]⟩,.slice none 0 0,.slice none 0 0,.int .i64 0,.int .i64 0,.slice none 0 0] rfl,Jav q G (fun b k e=>(z.not_row q (by decide)) (by rw[k,e])),Jav p G (fun b k e=>(z.not_row p (by decide)) (by rw[k,e])),R.out.trans U⟩)
           have K4:=zI (s.out _ l.out.2.2.2);simp only[putC,qay,Nat.reduceAdd] at l K4;clear V o U G q p)))
  all_goals
   go_split_ands;go_wp2_with fail
   go_meet;exact⟨_,A',c',B',d',rfl,l.out⟩
 case rest=>
  obtain⟨gc,A',c',B',d',rfl,x,Z,P,E⟩:=hcut;have Hh:=zI (Hf.out.trans (E.mono Hf.out.size));have y:=zI (O.out.below E);have Hi:=zI Z;have Hj:=zI P;have Ht:=zI (Hk.out _ Hh.out);have x0:=x.at_ 0 rfl;have y0:=y.out.at_ 0 rfl;have f0:=y.out.free 0;have x1:=x.at_ 1 rfl;have y1:=y.out.at_ 1 rfl;have f1:=y.out.free 1;have x2:=x.at_ 2 rfl;have y2:=y.out.at_ 2 rfl;have f2:=y.out.free 2;have x3:=x.at_ 3 rfl;have y3:=y.out.at_ 3 rfl;have f3:=y.out.free 3;have x4:=x.at_ 4 rfl;have y4:=y.out.at_ 4 rfl;have f4:=y.out.free 4;have x5:=x.at_ 5 rfl;have y5:=y.out.at_ 5 rfl;have f5:=y.out.free 5;have x6:=x.at_ 6 rfl;have y6:=y.out.at_ 6 rfl;have f6:=y.out.free 6;have x7:=x.at_ 7 rfl;have y7:=y.out.at_ 7 rfl;have f7:=y.out.free 7;have x8:=x.at_ 8 rfl;have y8:=y.out.at_ 8 rfl;have f8:=y.out.free 8;have x9:=x.at_ 9 rfl;have y9:=y.out.at_ 9 rfl;have f9:=y.out.free 9;have x10:=x.at_ 10 rfl;have y10:=y.out.at_ 10 rfl;have f10:=y.out.free 10;have x11:=x.at_ 11 rfl;have y11:=y.out.at_ 11 rfl;have f11:=y.out.free 11;clear x Z P E Hd He s K0 K0a;go_wp2_with fail
  refine Ht.out.mono ?_;rintro e w8 ⟨rfl,hw⟩;subst hw;go_wp2_with fail
  obtain⟨w9,D⟩:∃w9,w9=putC wc w.heap.size 0 [.int .u64 1,.int .u64 1,.int .i64 t.r.now,.string t.r.nm,.slice A' n c',.slice B' n d',.string ⟨#[]⟩,.slice none 0 0,.slice none 0 0,.int .i64 0,.int .i64 0,.slice none 0 0]:=⟨_,rfl⟩;have u:=Ja6 y.out [.int .u64 1,.int .u64 1,.int .i64 t.r.now,.string t.r.nm,.slice A' n c',.slice B' n d',.string ⟨#[]⟩,.slice none 0 0,.slice none 0 0,.int .i64 0,.int .i64 0,.slice none 0 0] rfl;have C:=Jan (B:=w.heap.size) [.int .u64 1,.int .u64 1,.int .i64 t.r.now,.string t.r.nm,.slice A' n c',.slice B' n d',.string ⟨#[]⟩,.slice none 0 0,.slice none 0 0,.int .i64 0,.int .i64 0,.slice none 0 0] (qab _) wc 0;have hJ:=Jci (g:=w.heap.size) [.int .u64 1,.int .u64 1,.int .i64 t.r.now,.string t.r.nm,.slice A' n c',.slice B' n d',.string ⟨#[]⟩,.slice none 0 0,.slice none 0 0,.int .i64 0,.int .i64 0,.slice none 0 0] wc 0;rw[<- D] at u C hJ;simp only[putC,qay,Nat.reduceAdd] at D;clear x0 x1 x2 x3 x4 x5 x6 x7 x8 x9 x10 x11 y0 y1 y2 y3 y4 y5 y6 y7 y8 y9 y10 y11 f0 f1 f2 f3 f4 f5 f6 f7 f8 f9 f10 f11;rw[<- D];have q0:=u.at_ 0 rfl;have q1:=u.at_ 1 rfl;have q2:=u.at_ 2 rfl;have q3:=u.at_ 3 rfl;have q4:=u.at_ 4 rfl;have q5:=u.at_ 5 rfl;have q6:=u.at_ 6 rfl;have q7:=u.at_ 7 rfl;have q8:=u.at_ 8 rfl;have q9:=u.at_ 9 rfl;have q10:=u.at_ 10 rfl;have q11:=u.at_ 11 rfl;have Hx:w.heap.size+1<=w1.heap.size:=by have:=O.out.lt;omega
  have Z:=Jav Hi.out hJ (fun b k e=>by have:=(Hi.out.lt b k).1;omega);have P:=Jav Hj.out hJ (fun b k e=>by have:=(Hj.out.lt b k).1;omega);obtain⟨A2,c2,e2,Hu⟩:=Jii Z Hp.out Ho.out Hq.out;cases e2
  refine qa8 (v:= .tuple #[.agg #[.int .u64 1,.int .u64 1,.int .i64 t.r.now,.string t.r.nm,.slice A' n c',.slice B' n d',.string ⟨#[]⟩,.slice none 0 0,.slice none 0 0,.int .i64 0,.int .i64 0,.slice none 0 0],.int .i64 0]) (by simp[results,Tryz.results313,go_sem,q0,q1,q2,q3,q4,q5,q6,q7,q8,q9,q10,q11]) rfl ⟨A',c',B',d',by rw[<- HN.out];rfl,by rw[<- HN.out];exact Hu,by rw[<- HN.out];exact Jsb Z,fun a e=> ?_,by rw[<- HN.out];exact Jc8 P (by omega),Hh.out.trans C⟩;have H:=Jce Z a e;have h2:=C.size;exact⟨by have:=H.1;omega,by have:=H.2;omega⟩
end Go.Proofs.YtglmhddbhhcjdaaGreatDoor
