/-
  Several texts in one: Catl, Srd, Loads, Build.
-/
import Derived.Test.YtglmhddbhhcjdaaGreatDoorV38
import Derived.Test.YtglmhddbhhcjdaaGreatDoorV39
set_option maxRecDepth 100000
set_option linter.unusedSimpArgs false
set_option maxHeartbeats 4000000
namespace Go.Proofs.YtglmhddbhhcjdaaGreatDoor
open Go.RowKit
theorem Jgu.chg{w w':World}{F G:Nat ->Prop}{g i:Nat}{now:Int}{nm:ByteArray}{A:Option Addr}{n c:Nat}{B:Option Addr}{c2:Nat}{E:Option Addr}{en ec:Nat}{ts:List Ti}{fl:List Int}{ms:List Em}(h:Jgu w F g i now nm A n c B c2 E en ec ts fl ms)(hc:Chg G w w')(hd:Dj F G)(hA:AIn F A)(hB:AIn F B):Jgu w' F g i now nm A n c B c2 E en ec ts fl ms:=
 ⟨h.hg,h.hi,h.hnow,h.hnm,h.hts.chg hc (hA.dj hd),h.hc,h.hck,h.hfl.chg hc (hB.dj hd),h.hflo,h.hes.chg hc hd,h.hen,h.hok,h.hsh,h.hbl,h.hlen⟩
theorem Jgu.sub{w:World}{F G:Nat ->Prop}{g i:Nat}{now:Int}{nm:ByteArray}{A:Option Addr}{n c:Nat}{B:Option Addr}{c2:Nat}{E:Option Addr}{en ec:Nat}{ts:List Ti}{fl:List Int}{ms:List Em}(h:Jgu w F g i now nm A n c B c2 E en ec ts fl ms)(hs:∀b,F b ->G b):Jgu w G g i now nm A n c B c2 E en ec ts fl ms:=
 ⟨h.hg,h.hi,h.hnow,h.hnm,h.hts,h.hc,h.hck,h.hfl,h.hflo,h.hes.sub hs,h.hen,h.hok,h.hsh,h.hbl,h.hlen⟩
theorem DsAt.sblocks{w:World}{F:Nat ->Prop}{g N q:Nat}{f:Int ->Option ByteArray}(h:DsAt w F g N q f)(A:Option Addr)(n c:Nat)(zs:List Int)(hz:Ints w .i64 A n zs)(hin:∀z∈zs,0<=z/\z<(N:Int))(hn:n<=900000):
  Cs 212 #[g,.slice A n c] w fun e w'=>∃v,e= .returned (.tuple #[v,(0:Int)])/\w'.ownsRow w.heap.size 9 1 v n (bksL f zs)/\Below w.heap.size w w':=by
 obtain⟨_,_,_,h,_⟩:=h;exact Jwe w h A n c zs hz hin hn
def catZ (a j:Nat):List Int:=(List.range j).map fun q=>((a+q:Nat):Int)
theorem Jrc(a j:Nat):catZ a (j+1)=catZ a j++[((a+j:Nat):Int)]:=by unfold catZ;rw[qb9,qbf];rfl
theorem J4v(a j:Nat):(catZ a j).length=j:=by simp[catZ]
theorem Jrd(f:Int ->Option ByteArray)(a nb:Nat)(l:List UInt8)(h:∀j,j<nb ->Jbd f ((a+j:Nat):Int)=chC l j):∀j,j<=nb ->bksL f (catZ a j)=(List.range j).map fun q=>Value.string (chC l q)
 | 0,_=>rfl
 | j+1,hj=>by
   rw[Jrc,Jqu,Jrd f a nb l h j (by omega),h j (by omega),qb9,qbf];rfl
theorem J4w(l:List UInt8)(j:Nat):strOf ((padC l).take (256*j))++chC l j=strOf ((padC l).take (256*(j+1))):=by
 unfold chC;rw[Jc3,show 256*(j+1)=256*j+256 from by omega,List.take_add]
theorem J4x(l:List UInt8):(strOf ((padC l).take (256*nbC l))).extract 0 l.length=strOf l:=by
 rw[qao (by rw[Jid];omega)];unfold padC;exact Jeo l _
theorem J09{F:Nat ->Prop}{g N C B D R gd gen id mp bk q:Nat}{lg:Option Addr}{bad:Int}{f:Int ->Option ByteArray}(k i:Nat)(now:Int)(nm:ByteArray)(ts:List Ti)(fl:List Int)(es:List En)(l:List UInt8)(w:World)(hX:Bo w g (Jdv N C B D R ⟨gd,0,none⟩ gen id mp bk lg bad))(hD:DsAt w F gd N q f)(hL:Jd3 N C B D R)(hl:l=catB k i now (Py.printL nm.toList ts) fl es)(hf:Jic k i now nm ts fl es)(hG:Glo w)(hlen:l.length<=C*256)(hon:∀j,j<nbC l ->Jbd f ((Jck B k+j:Nat):Int)=chC l j):
  Cs 131 #[g,.agg #[.int .u64 (k:Int),(N:Int),(l.length:Int)]] w fun e w'=>∃A c B' c2 E ec ms,e= .returned (.tuple #[.agg (Ja0 k i now nm A ts.length c B' c2 E es.length ec),(0:Int)])/\ms.map Em.e=es/\
   Jgu w' (made w w') k i now nm A ts.length c B' c2 E es.length ec ts fl ms/\AIn (made w w') A/\AIn (made w w') B'/\Below w.heap.size w w':=by
 obtain⟨n,hn⟩:=exE ts.length;obtain⟨en,hJ⟩:=exE es.length;rw[<- hn,<- hJ];have HN:=zI hn;have Kv:=zI hJ;clear hn hJ;have Ha:=hL.bd;have hN:=hL.n;obtain⟨L,m⟩:=exE l.length;obtain⟨nb,Hb⟩:=exE (nbC l);have Hc:nb=(L+255) / 256:=by rw[Hb,m];rfl
 have Tk:L<=7680:=by rw[m];omega
 have Kw:nb<=30:=by omega
 have H:nb<=C:=by rw[m] at Hc;omega
 obtain⟨a,ha⟩:=exE (Jck B k);have Hu:a+nb<=N/\a<=48:=by rw[ha];unfold Jck;split<;>omega
 rw[<- m];have d1:decide ((C:Int)*256<(L:Int))=false:=qae (by rw[m];omega);obtain⟨gs,Hd⟩:=exE w.heap.size;obtain⟨gr,He⟩:=exE (w.heap.size+1);obtain⟨w0,d⟩:=exE ((w.alloc (.cells #[.int .u64 (k:Int),(N:Int),(L:Int)] 202)).alloc (.cells zCat 207));have Hv:(w.alloc (.cells #[.int .u64 (k:Int),(N:Int),(L:Int)] 202)).heap.size=w.heap.size+1:=by simp
 have Z:Below w.heap.size w w0:=by rw[d];exact((qaa _ w).alloc (qab _) _).alloc (by simp) _
 have T:Bx w0 gs 202 #[.int .u64 (k:Int),(N:Int),(L:Int)]:=by rw[d,Hd];exact(Bx.new w _ _).alloc _
 have Hw:Bx w0 gr 207 zCat:=by
  have:=Bx.new (w.alloc (.cells #[.int .u64 (k:Int),(N:Int),(L:Int)] 202)) 207 zCat;rw[Hv,<- He] at this;rw[d];exact this
 have Hf:=zI (hX.below Z);have Kx:=zI (hD.below Z);have Ky:=zI T;have Kz:=zI Hw;have Hx:=zI Z;have KC:=zI d;have KD:=zI Hd;have Hy:=zI He;have KE:=zI (hG.below Z);have KG:=zI hf;have HL:=zI hl;have KH:=zI m;have P:=zI Hb;have Hz:=zI Hc;have HA:=zI ha;have Hg:=zI Hu;have Hh:=zI hon;have Hi:=(qaa w0.heap.size w0).drew;have s2:=T.at_ 2 (v:= (L:Int)) rfl;have s2':=(T.below Hi).at_ 2 (v:= (L:Int)) rfl;have x4:=Hf.out.at_ 4 (v:= (C:Int)) rfl;have x4':=(Hf.out.below Hi).at_ 4 (v:= (C:Int)) rfl;have Te:=zI Ha;have KI:=zI hN;have Tf:C<=30:=Ha.2.1;have Tg:=zI hlen;have Th:=zI H;clear hX hD hL hl hf hG hlen hon Ha hN m Hb Hc ha Hu Hd He d Hv Z T Hw Hi H;go_enter Tryz.func131,Tryz.ntmps131;go_upto_region 1 with fail
 rw[<- KC.out,<- Hy.out,<- KD.out];go_region
 obtain⟨w1,Hj⟩:=exE w0.drew;have h:Below w0.heap.size w0 w1:=by rw[Hj];exact(qaa w0.heap.size w0).drew
 rw[<- Hj];have H0:=zI (Hf.out.below h);have KJ:=zI (Kx.out.below h);have O:=zI (Ky.out.below h);have H9:=zI (Kz.out.below h);have Hk:=zI (Hx.out.trans (h.mono Hx.out.size));have KK:=zI (KE.out.below h);have KL:=zI (fun W (hW:Below w1.heap.size w1 W)=>Jue k (H0.out.below hW));clear Hj h s2 s2' x4 x4' d1;go_wp2_with fail
 go_loopw [6,7] (fun o i wr=>∃ (j:Nat) (E:Option Addr) (ec:Nat),j<=nb/\i= .int .i64 ((256*j:Nat):Int)/\o= .slice E j ec/\wr.ownsRow w1.heap.size 3 1 (.slice E j ec) j ((catZ a j).map (Value.int .i64))/\Below w1.heap.size w1 wr) (fun _ i _=>256*nb - (intOf i).toNat)
 case atStart=>exact⟨0,none,0,qaq _,rfl,rfl,qax _ _ _ _,qaa _ _⟩
 case round=>
  obtain⟨j,E,ec,hj,rfl,rfl,hr,r⟩:=hrel;have s2:=(O.out.below r).at_ 2 (v:= (L:Int)) rfl;have Hl:=zI r;have Tm:=zI hr;by_cases Hm:j<nb
  · have Hn:256*j<L:=by have:=Hz.out;omega
    have s0:=(O.out.below r).at_ 0 (v:= .int .u64 (k:Int)) rfl;have HW:=zI (KL.out wr r);rw[<- HA.out] at HW;have KM:=zI (Jrc a j);obtain⟨ii,G⟩:=exE (256*j);rw[<- G] at Hn ⊢;have hq:(ii:Int) / 256=(j:Int):=by rw[G];omega
    have HI:=zI G;have Tj:a<=48:=Hg.out.2;have M:=(qaa wr.heap.size wr).alloc (qab _) (.cells #[((a:Int)+(j:Int):Int)] 3);have Ka:=zI (Jah hr M);have KN:=zI (Sl.new wr 3 wr.heap.size [((a:Int)+(j:Int):Int)] #[((a:Int)+(j:Int):Int)] rfl rfl);have Hh:=zI (show ∀u∈[Value.int .i64 ((a:Int)+(j:Int))],u.oneCell'=true from by intro u hu;rw[qaz.1 hu];rfl);have KO:=zI (show j+1<=1000000 from by omega);have Kb:=zI (show w1.heap.size<=(wr.alloc (.cells #[((a:Int)+(j:Int):Int)] 3)).heap.size from qat r.size M.size);have KP:=zI (r.trans (M.mono r.size));clear G r hr M;go_wp2_with fail
    refine HW.out.mono ?_;rintro e w4 ⟨rfl,KQ⟩;subst KQ;go_wp2_with (at_builtin;refine Jxj rfl _ _ rfl Ka.out rfl (some ⟨wr.heap.size,0,none⟩) 1 1 [((a:Int)+(j:Int):Int)] rfl rfl KN.out Hh.out KO.out Kb.out ?_;intro E' ec' w5 Kc Kd)
    have KR:=zI (show w5.ownsRow w1.heap.size 3 1 (.slice E' (j+1) ec') (j+1) ((catZ a (j+1)).map (Value.int .i64)) from by
     rw[KM.out,qbf];exact Kc)
    have KS:=zI (Jbw Ka.out Kd KP.out Kb.out);clear Kc Kd s0 s2 hq;go_wp2_with fail
    go_roundw
    case rel=>exact⟨j+1,E',ec',by omega,by rw[HI.out];go_num,rfl,KR.out,KS.out⟩
    case measure=>have hI:=HI.out;simp[intOf];omega
  · have KT:j=nb:=by omega
    subst KT;have Hn:L<=256*j:=by have:=Hz.out;omega
    obtain⟨ii,G⟩:=exE (256*j);rw[<- G] at Hn ⊢;have HI:=zI G;obtain⟨_,_,e2,Ke⟩:=Jap hr;cases e2
    have Kf:Ints wr .i64 E j (catZ a j):=⟨Ke,J4v a j,by unfold maxLen;omega,fun z hz=>by
     unfold catZ at hz;obtain⟨x,hx,rfl⟩:=qbm.1 hz;have h1:=Hg.out;have h2:=qca.1 hx;have h3:=KI.out;exact Jca (by omega)⟩
    have Kg:=zI ((KJ.out.below r).sblocks E j ec (catZ a j) Kf (fun z hz=>by
     unfold catZ at hz;obtain⟨x,hx,rfl⟩:=qbm.1 hz;have h1:=Hg.out;have h2:=qca.1 hx;omega) (by omega))
    rw[Jrd f a j l (by rw[HA.out,P.out];exact Hh.out) j (qab _)] at Kg;have x7:=(H0.out.below r).at_ 7 (v:= gd) rfl;clear G hr r Ke Kf;go_wp2_with fail
    refine Kg.out.mono ?_;rintro e w4 ⟨vr,rfl,Ho,K⟩;obtain⟨A4,c4,rfl,_⟩:=Jap Ho;have KU:=zI (show gr<w4.heap.size from qar H9.out.lt (qat Hl.out.size K.size));have V:=zI (Hl.out.trans (K.mono Hl.out.size));have KV:=zI Ho;clear s2 x7 Ho K;go_wp2_with fail
    go_loopw [10,55] (fun s i wr=>∃ (p:Nat),p<=j/\i= .int .i64 (p:Int)/\s= .string (strOf ((padC l).take (256*p)))/\wr=w4) (fun _ i _=>j - (intOf i).toNat)
    case atStart=>exact⟨0,qaq _,rfl,by simp[strOf],rfl⟩
    case round=>
     obtain⟨p,hp,rfl,rfl,rfl⟩:=hrel;by_cases Hm:p<j
     · obtain⟨_,_,e4,Kh⟩:=Jap KV.out
       cases e4
       obtain⟨b4,o4,rfl,K,Ki⟩:=Kh.at_ (by intro e;have:=congrArg List.length e;simp at this;omega);have c4':=Ki p (chC l p) (by rw[qb7,qda Hm];rfl);have HY:=zI (J4w l p);obtain⟨X,hX⟩:=exE (strOf ((padC l).take (256*p)));obtain⟨Y,hY⟩:=exE (chC l p);have KW:X.size<=10000:=by rw[hX,Jab,qap];omega
       have Tn:Y.size<=300:=by rw[hY,Jum l p (by rw[<- P.out];exact Hm)];omega
       rw[<- hX,<- hY] at HY;rw[<- hX];rw[<- hY] at c4';clear Kh Ki hX hY;go_wp2_with fail
       rw[HY.out];go_roundw
       case rel=>exact⟨p+1,by omega,by go_num,rfl,trivial⟩
       case measure=>simp[intOf];omega
     · have KX:p=j:=by omega
       subst KX;have J:=zI (J70 k i now nm ts fl es wr KG.out (KK.out.below V.out));rw[<- HL.out] at J;obtain⟨X,hX⟩:=exE (strOf ((padC l).take (256*p)));obtain⟨S,hS⟩:=exE (strOf l);have KY:X.size=256*p:=by rw[hX,Jab,qap,Jid,<- P.out];omega
       have To:L<=X.size:=by have:=HI.out;omega
       have KW:X.size<=10000:=(by omega);have KZ:=zI (show X.extract 0 L=S from by rw[hX,hS,P.out,KH.out];exact J4x l);rw[<- hX];rw[<- hS] at J;have s2:=(O.out.below V.out).at_ 2 (v:= (L:Int)) rfl;rw[<- HN.out,<- Kv.out] at J;clear hX hS KY;go_wp2_with fail
       rw[KZ.out];refine J.out.mono ?_;rintro e w6 ⟨A,c,B',c2,E6,ec6,ms,rfl,Kj,Kk,Kl,Km,Kn⟩;have K7:=zI Kj;have K8:=zI V.out.size;have Ko:=zI (V.out.trans (Kn.mono V.out.size));obtain⟨w7,I⟩:=exE (w6.alloc (.cells (Ja0 k i now nm A n c B' c2 E6 en ec6) 207));obtain⟨gc,Hp⟩:=exE w6.heap.size;have Hq:=Bx.new w6 207 (Ja0 k i now nm A n c B' c2 E6 en ec6);have U:=(qaa w6.heap.size w6).alloc (qab _) (.cells (Ja0 k i now nm A n c B' c2 E6 en ec6) 207);rw[<- I,<- Hp] at Hq;rw[<- I] at U;have Hr:=zI (Ko.out.trans (U.mono Ko.out.size));have K9:=zI (Kk.below U);have Kp:=zI Kl;have Kq:=zI Km;have Ta:=zI U.size;have Tb:=zI I;have Tc:=zI Hp;have t0:=(O.out.below Hr.out).at_ 0 (v:= .int .u64 (k:Int)) rfl;obtain⟨x0,x1,x2,x3,x4,x5,x6,x7,x8,x9,x10,x11⟩:=Jbk Hq;have t:=H9.out.below Hr.out;have HY:=zI t;have y0:=t.at_ 0 rfl;have y1:=t.at_ 1 rfl;have y2:=t.at_ 2 rfl;have y3:=t.at_ 3 rfl;have y4:=t.at_ 4 rfl;have y5:=t.at_ 5 rfl;have y6:=t.at_ 6 rfl;have y7:=t.at_ 7 rfl;have y8:=t.at_ 8 rfl;have y9:=t.at_ 9 rfl;have y10:=t.at_ 10 rfl;have y11:=t.at_ 11 rfl;have f0:=t.free 0;have f1:=t.free 1;have f2:=t.free 2;have f3:=t.free 3;have f4:=t.free 4;have f5:=t.free 5;have f6:=t.free 6;have f7:=t.free 7;have f8:=t.free 8;have f9:=t.free 9;have f10:=t.free 10;have f11:=t.free 11;clear Kj Kk Kl Km Kn U Hq I Hp t s2;go_upto_region 18 with fail
       have Kr:w6.alloc (.cells #[.int .u64 (k:Int),.int .u64 (i:Int),(now:Int),nm,.slice A n c,.slice B' n c2,ByteArray.empty,.slice none 0 0,.slice none 0 0,(0:Int),(0:Int),.slice E6 en ec6] 207)=w7:=Tb.out.symm;rw[Kr,<- Tc.out];clear Kr;go_wp2_with fail
       clear x0 x1 x2 x3 x4 x5 x6 x7 x8 x9 x10 x11 y0 y1 y2 y3 y4 y5 y6 y7 y8 y9 y10 y11 f0 f1 f2 f3 f4 f5 f6 f7 f8 f9 f10 f11;obtain⟨w8,Hs⟩:=exE (putC w7 gr 0 [.int .u64 (k:Int),.int .u64 (i:Int),(now:Int),nm,.slice A n c,.slice B' n c2,ByteArray.empty,.slice none 0 0,.slice none 0 0,(0:Int),(0:Int),.slice E6 en ec6]);have y:=Ja1 HY.out [.int .u64 (k:Int),.int .u64 (i:Int),(now:Int),nm,.slice A n c,.slice B' n c2,ByteArray.empty,.slice none 0 0,.slice none 0 0,(0:Int),(0:Int),.slice E6 en ec6] rfl;have Ks:=Jao (B:=w.heap.size) [.int .u64 (k:Int),.int .u64 (i:Int),(now:Int),nm,.slice A n c,.slice B' n c2,ByteArray.empty,.slice none 0 0,.slice none 0 0,(0:Int),(0:Int),.slice E6 en ec6] (show w.heap.size<=gr from by have:=Hy.out;omega) w7 0;have Ht:=Jb8 (g:=gr) [.int .u64 (k:Int),.int .u64 (i:Int),(now:Int),nm,.slice A n c,.slice B' n c2,ByteArray.empty,.slice none 0 0,.slice none 0 0,(0:Int),(0:Int),.slice E6 en ec6] w7 0;rw[<- Hs] at y Ks Ht;simp only[putC,qa9,Nat.reduceAdd] at Hs;rw[<- Hs];have q0:=y.at_ 0 rfl;have q1:=y.at_ 1 rfl;have q2:=y.at_ 2 rfl;have q3:=y.at_ 3 rfl;have q4:=y.at_ 4 rfl;have q5:=y.at_ 5 rfl;have q6:=y.at_ 6 rfl;have q7:=y.at_ 7 rfl;have q8:=y.at_ 8 rfl;have q9:=y.at_ 9 rfl;have q10:=y.at_ 10 rfl;have q11:=y.at_ 11 rfl;have Tp:=KU.out;have Td:Dj (made wr w6) (fun b=>b=gr):=fun b r e=>by have:=r.1;omega
       have Kt:w6.heap.size<=w8.heap.size:=qat Ta.out Ht.size;have up:∀b,made wr w6 b ->made w w8 b:=fun b r=>⟨qat (qat Hk.out.size K8.out) r.1,qar r.2 Kt⟩;have Ku:=(K9.out.chg Ht Td Kp.out Kq.out).sub up;refine qa7 (v:= .tuple #[.agg (Ja0 k i now nm A n c B' c2 E6 en ec6),(0:Int)]) (by simp[results,Tryz.results131,go_sem,q0,q1,q2,q3,q4,q5,q6,q7,q8,q9,q10,q11]) rfl ⟨A,c,B',c2,E6,ec6,ms,rfl,K7.out,Ku,Kp.out.sub up,Kq.out.sub up,(Hk.out.trans (Hr.out.mono Hk.out.size)).trans Ks⟩
structure SegR (f:Int ->Option ByteArray) (D N:Nat) (e:En) (l:List Rc):Prop where
 on:∀j (hj:j<e.bl.length),some (Jbd f e.bl[j])=(sgL e.id e.tier e.shard l)[j]?
 len:e.bl.length=sgN l.length
 n:1<=l.length/\l.length<=10000
 fine:∀r∈l,r.Fine
 lt:l.Pairwise Rc.lt
 bl:∀z∈e.bl,(D:Int)<=z/\z<(N:Int)
theorem SegR.strs{f:Int ->Option ByteArray}{D N:Nat}{e:En}{l:List Rc}(h:SegR f D N e l):bksL f e.bl=(sgL e.id e.tier e.shard l).map Value.string:=by
 apply qc9;intro j;unfold bksL;rw[qb7,qb7];by_cases z:j<e.bl.length
 · rw[<- h.on j z,qam z];rfl
 · rw[qbg (by omega),qbg (by rw[Jfb,<- h.len];omega)];rfl
theorem J4y{w:World}{A:Option Addr}{n:Nat}{zs:List Int}(h:Ints w .i64 A n zs)(hn:1<=n):∃a,A=adr a:=by
 obtain⟨b,off,e,_⟩:=h.sl.at_ (by intro e;have z:=congrArg List.length e;have:=h.len;simp at z;rw[z] at this;simp at this;omega);exact⟨some (b,off),e⟩
structure SrS (w1 wr:World) (P:Option Addr) (k pc:Nat) (ps:List Pm):Prop where
 row:wr.ownsRow w1.heap.size 316 7 (.slice P k pc) k (ps.flatMap Pm.cells)
 rc:∀p∈ps,wr.ownsRow w1.heap.size 142 7 (.slice (adr p.B) p.l.length p.d) p.l.length (p.l.flatMap Rc.cells)
 bel:Below w1.heap.size w1 wr
section
variable {w1 wr w':World} {P:Option Addr} {k pc:Nat} {ps:List Pm}
theorem SrS.below(h:SrS w1 wr P k pc ps)(hb:Below wr.heap.size wr w'):SrS w1 w' P k pc ps:=
 ⟨Jah h.row hb,fun p hp=>Jah (h.rc p hp) hb,h.bel.trans (hb.mono h.bel.size)⟩
theorem SrS.put{P':Option Addr}{pc':Nat}(h:SrS w1 wr P k pc ps)(p:Pm)(hr:wr.ownsRow w1.heap.size 142 7 (.slice (adr p.B) p.l.length p.d) p.l.length (p.l.flatMap Rc.cells))(hg:wr.grownBy w' (Value.slice P k pc).ownBlock)(ho:w'.ownsRow w1.heap.size 316 7 (.slice P' (k+1) pc') (k+1) (ps.flatMap Pm.cells++p.cells)):SrS w1 w' P' (k+1) pc' (ps++[p]):=by
 refine⟨by rw[qay];simpa using ho,fun q z=> ?_,Jbw h.row hg h.bel h.bel.size⟩;rcases qbc.1 z with z | z
 · exact(h.rc q z).kept hg (Jhi (h.rc q z) h.row (by decide))
 · rw[qaz.1 z];exact hr.kept hg (Jhi hr h.row (by decide))
end
theorem J4z{F G:Nat ->Prop}{g N C B D R gd gen id mp bk q:Nat}{lg:Option Addr}{bad:Int}{f:Int ->Option ByteArray}(k i:Nat)(now:Int)(nm:ByteArray)(A:Option Addr)(n c:Nat)(B':Option Addr)(c2:Nat)(E:Option Addr)(en ec:Nat)(ts:List Ti)(fl:List Int)(ms:List Em)(rs:List (List Rc))(w:World)(hX:Bo w g (Jdv N C B D R ⟨gd,0,none⟩ gen id mp bk lg bad))(hD:DsAt w F gd N q f)(hL:Jd3 N C B D R)(hC:Jgu w G k i now nm A n c B' c2 E en ec ts fl ms)(hrl:rs.length=ms.length)(hs:∀j (h1:j<ms.length) (h2:j<rs.length),SegR f D N ms[j].e rs[j]):
  Cs 132 #[g,.agg (Ja0 k i now nm A n c B' c2 E en ec)] w fun e w'=>∃P pc ps,e= .returned (.tuple #[.slice P en pc,(0:Int)])/\ps.map Pm.em=ms/\ps.map Pm.l=rs/\SrS w w' P en pc ps:=by
 have hN:=hL.n;have t:=hL.bd;have Ho:Below w.heap.size w (w.alloc (.cells (Ja0 k i now nm A n c B' c2 E en ec) 207)):=(qaa _ w).alloc (qab _) _;have b0:=Bx.new w 207 (Ja0 k i now nm A n c B' c2 E en ec);have HX:=zI hX;have HD:=zI hD;have Hp:=zI hC.hes;have Kh:=zI hC.hok;have HI:=zI hC.hi;have KE:=zI hC.hen;have Hc:=zI hC.hes.len;have KG:en<=90:=hC.hen;have Hq:=zI hrl;have Ki:=zI hs;have Kj:=zI hN;have Kk:=zI t;have Hr:=zI Ho;have x11:=b0.at_ 11 (v:= .slice E en ec) rfl;clear hX hD hC hrl hs hL hN t Ho b0;go_enter Tryz.func132,Tryz.ntmps132;go_wp2_with fail
 obtain⟨w1,Hd⟩:=exE (w.alloc (.cells (Ja0 k i now nm A n c B' c2 E en ec) 207));rw[<- Hd] at Hr;have Hs:w.alloc (.cells #[.int .u64 (k:Int),.int .u64 (i:Int),(now:Int),nm,.slice A n c,.slice B' n c2,ByteArray.empty,.slice none 0 0,.slice none 0 0,(0:Int),(0:Int),.slice E en ec] 207)=w1:=Hd.symm;rw[Hs];have Kl:=zI (show SrS w w1 none 0 0 [] from⟨qax _ _ _ _,fun p hp=>by simp at hp,Hr.out⟩);clear Hs Hd x11;go_loopw [6,17] (fun o j wr=>∃ (h:Nat) (P:Option Addr) (pc:Nat) (ps:List Pm),h<=en/\j= .int .i64 (h:Int)/\o= .slice P h pc/\ps.map Pm.em=ms.take h/\ps.map Pm.l=rs.take h/\SrS w wr P h pc ps) (fun _ j _=>en - (intOf j).toNat)
 case atStart=>exact⟨0,none,0,[],qaq _,rfl,rfl,by simp,by simp,Kl.out⟩
 case round =>
  obtain⟨h,P,pc,ps,hh,rfl,rfl,hm,hl,hS⟩:=hrel;by_cases Km:h<en
  · have K :h<ms.length:=by rw[Hc.out];exact Km
    have K2:h<rs.length:=by rw[Hq.out];exact K
    obtain⟨b2,o2,Kn,KH,b⟩:=(Hp.out.below hS.bel).get K;have y:=zI (Ki.out h K K2);have He:=zI (((Hp.out.below hS.bel).row _ (qal K)).1);have a:=zI (Kh.out _ (qal K));have Hf:=zI (show ms.take (h+1)=ms.take h++[ms[h]] from qak K);have Hg:=zI (show rs.take (h+1)=rs.take h++[rs[h]] from qak K2);generalize ms[h]'K=x at*;generalize rs[h]'K2=rl at*;obtain⟨⟨eid,et,es,bl⟩,xA,xc⟩:=x;dsimp only at y He a;obtain⟨m,U⟩:=exE bl.length;have p0:wr.cell? ⟨b2,o2+h*6,none⟩=some (.int .u64 (eid:Int)):=b.c0;have p1:wr.cell? ⟨b2,o2+h*6+1,none⟩=some (.int .i64 (et:Int)):=b.c1;have p2:wr.cell? ⟨b2,o2+h*6+2,none⟩=some (.int .i64 (es:Int)):=b.c2;have p3:wr.cell? ⟨b2,o2+h*6+3,none⟩=some (.int .i64 0):=b.c3;have p4:wr.cell? ⟨b2,o2+h*6+4,none⟩=some (.int .i64 (m:Int)):=by rw[U];exact b.c4
    have p5:wr.cell? ⟨b2,o2+h*6+5,none⟩=some (.slice xA m xc):=by rw[U];exact b.c5
    subst Kn;obtain⟨a5,rfl⟩:=J4y He.out (by have:=a.out.len;exact this.1);obtain⟨gb,Hh⟩:=exE wr.heap.size;obtain⟨wb,M⟩:=exE (wr.alloc (.cells #[.int .u64 (eid:Int),(et:Int),(es:Int),(0:Int),(m:Int),.slice (adr a5) m xc] 312));have L:=Bx.new wr 312 #[.int .u64 (eid:Int),(et:Int),(es:Int),(0:Int),(m:Int),.slice (adr a5) m xc];have J:=(qaa wr.heap.size wr).alloc (qab _) (.cells #[.int .u64 (eid:Int),(et:Int),(es:Int),(0:Int),(m:Int),.slice (adr a5) m xc] 312);rw[<- M,<- Hh] at L;rw[<- M] at J;have Ht:=zI L;have Ko:=zI M;have Kp:=zI Hh;have I:=zI U;have Hi:=zI (hS.below J);have Hj:=zI (He.out.below J);have t5:=L.at_ 5 (v:= .slice (adr a5) m xc) rfl;have Kq:=zI hm;have Kr:=zI hl;have KI:m<=4096:=by rw[U];have:=a.out.len;exact this.2
    clear b Hh M L J U hm hl hS;go_upto_region 5 with fail
    rw[<- Ko.out,<- Kp.out];clear p0 p1 p2 p3 p4 p5;go_wp2_with fail
    go_loopw [24] (fun j wq=>∃p:Nat,p<=m/\j= .int .i64 (p:Int)/\wq=wb) (fun j _=>m - (intOf j).toNat)
    case atStart=>exact⟨0,qaq _,rfl,rfl⟩
    case round=>
     obtain⟨p,hp,rfl,Hu⟩:=hrel;rw[Hu];clear Hu;have Y:=HX.out.below Hi.out.bel;have h5:=Kk.out;by_cases Ks:p<m
     · have K3:p<bl.length:=by rw[<- I.out];exact Ks
       obtain⟨b5,o5,e5,Kt,KJ⟩:=Hj.out.get K3;have hz:=y.out.bl _ (qal K3);generalize bl[p]'K3=z at*;have x0:=Y.at_ 0 (v:= (N:Int)) rfl;have x5:=Y.at_ 5 (v:= (D:Int)) rfl;have d1:decide (z<(D:Int))=false:=qae (by have:=hz.1;omega);have d2:decide ((N:Int)<=z)=false:=qae (by have:=hz.2;omega);rw[e5];clear Y h5 Kt hz;go_wp2_with fail
       go_roundw
       case rel=>exact⟨p+1,by omega,by go_num,trivial⟩
       case measure=>simp[intOf];omega
     · have t:=(qaa wb.heap.size wb).drew
       have Ku:=Kj.out;have Hv:=zI (((HD.out.below Hi.out.bel).below t).sblocks (adr a5) bl.length xc bl (Hj.out.below t) (fun z hz=>by have:=y.out.bl z hz;omega) (by have:=a.out.len;dsimp only at this;omega));rw[<- I.out] at Hv;have x7:=Y.at_ 7 (v:= gd) rfl;have x7':=(Y.below t).at_ 7 (v:= gd) rfl;have t5':=(Ht.out.below t).at_ 5 (v:= .slice (adr a5) m xc) rfl;clear Y h5 t Ku;go_upto_region 11 with fail
       go_cut [11,12] (fun s11 s12 wx=>∃A6 c6,s11= .slice A6 m c6/\s12= .int .i64 0/\wx.ownsRow wb.heap.size 9 1 (.slice A6 m c6) m (bksL f bl)/\Below wb.heap.size wb wx)
       case first=>
        go_region_with (first
         | (go_at_call 212
            refine Hv.out.mono ?_;rintro e w6 ⟨vv,rfl,T,W⟩;obtain⟨A6,c6,rfl,_⟩:=Jap T))
        all_goals (go_split_ands;go_wp2_with fail;go_meet;exact⟨A6,c6,rfl,rfl,by simpa using T,(qaa wb.heap.size wb).drew.trans (by simpa using W)⟩)
       case rest=>
        obtain⟨A6,c6,rfl,rfl,T,W⟩:=hcut;have r:=Ht.out.below W;have Hw:=zI r;have Hx:=zI (Hi.out.below W);have KK:=zI (Hj.out.below W)
        have Hy:Strs wc A6 m (sgL eid et es rl):=by
         obtain⟨_,_,e6,Hz⟩:=Jap T;cases e6
         have h1:=y.out.strs;dsimp only at h1;rw[h1] at Hz;refine⟨Hz,by rw[Jfb,<- y.out.len,I.out],by unfold maxLen;omega,fun s hs=>by rw[Juk y.out.fine s hs];unfold maxLen;omega⟩
        have Hk:=HI.out;have S:=a.out.id;have Ha:=a.out.tier;have Hb:=a.out.shard;have Kv:=zI (Jz6 eid et es A6 m c6 rl wc S.1 (by have:=S.2;dsimp only at this;omega) (by dsimp only at Ha;omega) (by dsimp only at Hb;omega) y.out.fine y.out.lt y.out.n.2 (by intro e;have:=y.out.n.1;rw[e] at this;simp at this) Hy);have g0:=r.at_ 0 (v:= .int .u64 (eid:Int)) rfl;have g1:=r.at_ 1 (v:= (et:Int)) rfl;have g2:=r.at_ 2 (v:= (es:Int)) rfl;clear r T W Hy Hk S Ha Hb;go_wp2_with fail
        refine Kv.out.mono ?_;rintro e w7 ⟨v7,rfl,H,Hl⟩;obtain⟨a7,c7,rfl⟩:=Jsk H;obtain⟨rn,O⟩:∃rn,rn=rl.length:=⟨_,rfl⟩;rw[<- O] at H ⊢;have KL:=zI O;obtain⟨q7,V⟩:∃q7:Pm,q7=⟨⟨eid,et,es,bl⟩,rl,a5,xc,a7,c7⟩:=⟨_,rfl⟩;have H0:=zI V
        have Hm:q7.cells=[.int .u64 (eid:Int),.int .i64 (et:Int),.int .i64 (es:Int),.int .i64 0,.int .i64 (m:Int),.slice (adr a5) m xc,.slice (adr a7) rn c7]:=by
         rw[V];unfold Pm.cells Pm.raw PRaw.cells;dsimp only;rw[I.out,O]
        have Kw:=zI Hm;have Hn:=(qaa w7.heap.size w7).alloc (qab _) (.cells q7.cells.toArray 316);have hJ:=zI ((Hx.out.below Hl).below Hn)
        have H9:=zI (show(w7.alloc (.cells q7.cells.toArray 316)).ownsRow w.heap.size 142 7 (.slice (adr q7.B) q7.l.length q7.d) q7.l.length (q7.l.flatMap Rc.cells) from by
         have h1:=Jc9 (Jah H Hn) (show w.heap.size<=wc.heap.size from Hx.out.bel.size);have e1:q7.B=a7:=(by rw[V]);have e2:q7.l=rl:=(by rw[V]);have e3:q7.d=c7:=(by rw[V]);rw[e1,e2,e3,<- O];exact h1)
        have Ka:=zI (Sl.new w7 316 w7.heap.size q7.cells q7.cells.toArray rfl rfl);have Kb:=zI (show ∀u∈q7.cells,u.oneCell'=true from by have:=Jzs [q7];simpa using this);have Kx:=zI (show h+1<=1000000 from by omega);have Kc:=zI (show w.heap.size<=(w7.alloc (.cells q7.cells.toArray 316)).heap.size from hJ.out.bel.size);have Kd:=zI (show q7.cells.length=1*7 from rfl);have Z:=Hw.out.below Hl;have y0:=Z.at_ 0 (v:= .int .u64 (eid:Int)) rfl;have y1:=Z.at_ 1 (v:= .int .i64 (et:Int)) rfl;have y2:=Z.at_ 2 (v:= .int .i64 (es:Int)) rfl;have y3:=Z.at_ 3 (v:= .int .i64 0) rfl;have y4:=Z.at_ 4 (v:= .int .i64 (m:Int)) rfl;have y5:=Z.at_ 5 (v:= .slice (adr a5) m xc) rfl;rw[Hm] at hJ Ka Kb Kc Kd H9;clear g0 g1 g2 O V Hm Hn Z H Hl;go_wp2_with (at_builtin;refine Jqz rfl _ _ rfl hJ.out.row rfl (some ⟨w7.heap.size,0,none⟩) 1 1 _ rfl Kd.out Ka.out Kb.out Kx.out Kc.out ?_;intro E' ec' w9 Ke Kf Ky)
        have Kz:=zI (hJ.out.put q7 H9.out Kf (by rw[Kw.out];exact Ke));have KC:=zI (show(ps++[q7]).map Pm.em=ms.take (h+1) from by rw[qbf,Kq.out,Hf.out,H0.out];rfl);have Kg:=zI (show(ps++[q7]).map Pm.l=rs.take (h+1) from by rw[qbf,Kr.out,Hg.out,H0.out];rfl);clear Ke Kf Ky y0 y1 y2 y3 y4 y5;go_wp2_with fail
        go_roundw
        case rel=>exact⟨h+1,E',ec',ps++[q7],by omega,by go_num,rfl,KC.out,Kg.out,Kz.out⟩
        case measure=>simp[intOf];omega
  · have KD:h=en:=by omega
    subst KD;have Hf:=zI (show ms.take h=ms from qao (by rw[Hc.out];exact qab _));have Hg:=zI (show rs.take h=rs from qao (by rw[Hq.out,Hc.out];exact qab _));rw[Hf.out] at hm;rw[Hg.out] at hl;have HM:=zI hm;have HL:=zI hl;have HS:=zI hS;clear hm hl hS;go_wp2_with fail
    go_ret2;exact⟨P,pc,ps,rfl,HM.out,HL.out,HS.out⟩
structure LdS (w wr:World) (g4 g6:Nat) (cs:Array Value) (nm:ByteArray) (A:Option Addr) (n c:Nat):Prop where
 part:Bx wr g4 316 cs
 pol:Bx wr g6 101 #[nm,.slice A n c]
 bel:Below w.heap.size w wr
section
variable {w wr w':World} {g4 g6:Nat} {cs:Array Value} {nm:ByteArray} {A:Option Addr} {n c:Nat}
theorem LdS.below(h:LdS w wr g4 g6 cs nm A n c)(hb:Below wr.heap.size wr w'):LdS w w' g4 g6 cs nm A n c:=⟨h.part.below hb,h.pol.below hb,h.bel.trans (hb.mono h.bel.size)⟩
end
theorem J40{F:Nat ->Prop}{gt:Nat}{t:Tv}(eid et es m:Nat)(xA:Option Addr)(xc:Nat)(B:Option Addr)(rn d:Nat)(l:List Rc)(nm:ByteArray)(A:Option Addr)(n c:Nat)(ts:List Ti)(w:World)(h:Jae w F gt t)(hT:Tis w A n ts)(he:et<t.tabs.length)(hn:n=t.tabs.length)(sh:Nat)(hsh:∀ (K:et<ts.length),(ts[et]).sh=(sh:Int))(hsh1:1<=sh/\sh<=8)(hes:es<sh)(hR:Rcs w B rn l)(hB:AIn (fun b=> ¬ F b) B)(hln:rn<=10000)(hall:∀r∈l,shO sh r=es)(hld:∀r∈l,t.r.from_ et<=r.st/\Jat (t.r.ev et) r=true)(hev: -9223372036854775808<=t.r.ev et/\t.r.ev et<=9223372036854775807)(hfew:(t.tab et).length+rn<1000000)(hn5:n<=5):
  Cs 217 #[.agg #[.int .u64 (eid:Int),(et:Int),(es:Int),(0:Int),(m:Int),.slice xA m xc,.slice B rn d],(0:Int),polV nm A n c,.func (Fn.func 187) #[gt] #[]] w fun e w'=>e= .returned true/\Jae w' F gt (t.setTab et (addL (t.r.ev et) (t.tab et) l))/\Chg F w w':=by
 obtain⟨g4,g⟩:=exE w.heap.size;obtain⟨g6,f⟩:=exE (w.heap.size+1);obtain⟨w1,u⟩:=exE ((w.alloc (.cells #[.int .u64 (eid:Int),(et:Int),(es:Int),(0:Int),(m:Int),.slice xA m xc,.slice B rn d] 316)).alloc (.cells #[nm,.slice A n c] 101));have S:(w.alloc (.cells #[.int .u64 (eid:Int),(et:Int),(es:Int),(0:Int),(m:Int),.slice xA m xc,.slice B rn d] 316)).heap.size=w.heap.size+1:=by simp
 have R:Bx w1 g6 101 #[nm,.slice A n c]:=by
  have:=Bx.new (w.alloc (.cells #[.int .u64 (eid:Int),(et:Int),(es:Int),(0:Int),(m:Int),.slice xA m xc,.slice B rn d] 316)) 101 #[nm,.slice A n c];rw[S,<- f] at this;rw[u];exact this
 have y:=zI (show LdS w w1 g4 g6 #[.int .u64 (eid:Int),(et:Int),(es:Int),(0:Int),(m:Int),.slice xA m xc,.slice B rn d] nm A n c from
  ⟨by rw[u,g];exact(Bx.new w _ _).alloc _,R,by rw[u];exact((qaa _ w).alloc (qab _) _).alloc (by simp) _⟩)
 have Ha:=zI u;have P:=zI g;have Hb:=zI f;have HT:=zI h;have Hy:=zI hT;have s:=zI hR;have HB:=zI hB;have Hc:=zI hall;have Hd:=zI hld;have He:=zI hev;have Hf:=zI hfew;have Hx:et<n:=by omega
 have Hg:=zI he;have K:et<ts.length:=by rw[hT.len];omega
 obtain⟨b2,o2,O,Hh,Hi⟩:=hT.get K
 have hq:∀W,Below w.heap.size w W ->W.cell? ⟨b2,o2+et*4+3,none⟩=some (.int .i64 (sh:Int)):=fun W hW=>by
  rw[<- hsh K];have:=(hT.below hW).get K;obtain⟨b3,o3,N,Hz,M⟩:=this;rw[O] at N;cases N
  exact M.c3
 subst O;have HQ:=zI hq;have d1:decide ((et:Int)<0)=false:=qae (by omega);have d2:decide ((n:Int)<=(et:Int))=false:=qae (by omega);have d3:decide ((sh:Int)<=(es:Int))=false:=qae (by omega);have L:=(qaa w1.heap.size w1).drew;have z:=zI (y.out.below L);have t1:=y.out.part.at_ 1 (v:= (et:Int)) rfl;have t2:=y.out.part.at_ 2 (v:= (es:Int)) rfl;have t1':=z.out.part.at_ 1 (v:= (et:Int)) rfl;have t2':=z.out.part.at_ 2 (v:= (es:Int)) rfl;have q1:=y.out.pol.at_ 1 (v:= .slice (some ⟨b2,o2,none⟩) n c) rfl;have q1':=z.out.pol.at_ 1 (v:= .slice (some ⟨b2,o2,none⟩) n c) rfl;have c3:=HQ.out w1 y.out.bel;have c3':=HQ.out w1.drew z.out.bel;clear u g f S R h hT hR hB hall hld hev hfew hsh K Hi hq L he hn Hh;go_enter Tryz.func217,Tryz.ntmps217;go_upto_region 1 with fail
 rw[<- Ha.out,<- Hb.out,<- P.out];go_upto_region 2 with fail
 go_quiet (fail)
 have a:Below w1.heap.size w1 (w1.drewN nq):=below_drewN (qaa _ _) nq;obtain⟨w2,J⟩:=exE (w1.drewN nq);rw[<- J] at a ⊢;have I:=zI (y.out.below a);have e2:decide (n<=et)=false:=qae (by omega);have e3:decide (sh<=es)=false:=qae (by omega);have t6:=I.out.part.at_ 6 (v:= .slice B rn d) rfl;clear d1 d2 d3 t1 t2 t1' t2' q1 q1' c3 c3' a J;simp only[e2,e3,Bool.or_self];go_wp2_with fail
 clear e2 e3 t6;go_loopw [43] (fun j wr=>∃k:Nat,k<=rn/\j= .int .i64 (k:Int)/\LdS w wr g4 g6 #[.int .u64 (eid:Int),(et:Int),(es:Int),(0:Int),(m:Int),.slice xA m xc,.slice B rn d] nm (some ⟨b2,o2,none⟩) n c) (fun j _=>rn - (intOf j).toNat)
 case atStart=>exact⟨0,qaq _,rfl,I.out⟩
 case round=>
  obtain⟨k,hk,rfl,o⟩:=hrel;have Hj:=zI s.out.len;by_cases Hk:k<rn
  · have K:k<l.length:=by rw[Hj.out];exact Hk
    obtain⟨b,off,e5,H0,r0,r1,r2,r3,r4,r5,r6⟩:=(s.out.below o.bel).get K;have Hl:=zI (s.out.nm _ (qal K));have Hm:=zI (Hc.out _ (qal K));generalize l[k]'K=x at*;have Z:=(qaa wr.heap.size wr).alloc (qab _) (.cells #[x.nm,(x.st:Int),(x.ag.c:Int),(x.ag.hi:Int),.int .u64 x.ag.lo,(x.ag.mn:Int),(x.ag.mx:Int)] 142);have q:=Bx.new wr 142 #[x.nm,(x.st:Int),(x.ag.c:Int),(x.ag.hi:Int),.int .u64 x.ag.lo,(x.ag.mn:Int),(x.ag.mx:Int)];obtain⟨gb,Y⟩:=exE wr.heap.size;obtain⟨w5,V⟩:=exE (wr.alloc (.cells #[x.nm,(x.st:Int),(x.ag.c:Int),(x.ag.hi:Int),.int .u64 x.ag.lo,(x.ag.mn:Int),(x.ag.mx:Int)] 142));rw[<- V] at Z q;rw[<- Y] at q;have H:=zI (fun W=>Jqs x sh W hsh1.1 Hl.out);rw[Hm.out] at H;have G:=zI (o.below Z);have Hn:=zI q;have Ho:=zI Y;have Hp:=zI V
    have E:=zI (fun W (hW:Below w5.heap.size w5 W)=>(show(W.cell? ⟨g4,2,none⟩=some (.int .i64 (es:Int))/\W.cell? ⟨g6,1,none⟩=some (.slice (some ⟨b2,o2,none⟩) n c)/\W.cell? ⟨b2,o2+et*4+3,none⟩=some (.int .i64 (sh:Int))/\W.cell? ⟨gb,0,none⟩=some (.string x.nm)/\W.cell? ⟨gb,1,none⟩=some (.int .i64 x.st)/\W.cell? ⟨gb,2,none⟩=some (.int .i64 x.ag.c)/\W.cell? ⟨gb,3,none⟩=some (.int .i64 x.ag.hi)/\W.cell? ⟨gb,4,none⟩=some (.int .u64 x.ag.lo)/\W.cell? ⟨gb,5,none⟩=some (.int .i64 x.ag.mn)/\W.cell? ⟨gb,6,none⟩=some (.int .i64 x.ag.mx))/\Below w5.heap.size w5 W from by
     have h1:=G.out.below hW;have i:=Hn.out.below hW;exact⟨⟨h1.part.at_ 2 rfl,h1.pol.at_ 1 rfl,HQ.out W h1.bel,i.at_ 0 rfl,i.at_ 1 rfl,i.at_ 2 rfl,i.at_ 3 rfl,i.at_ 4 rfl,i.at_ 5 rfl,i.at_ 6 rfl⟩,hW⟩))
    have K0:=zI (E.out _ (qaa w5.heap.size w5).drew);subst e5;clear o Z q Y V;go_upto_region 7 with fail
    rw[<- Hp.out,<- Ho.out];clear r0 r1 r2 r3 r4 r5 r6
    go_region_held3 (fun W=>(W.cell? ⟨g4,2,none⟩=some (.int .i64 (es:Int))/\W.cell? ⟨g6,1,none⟩=some (.slice (some ⟨b2,o2,none⟩) n c)/\W.cell? ⟨b2,o2+et*4+3,none⟩=some (.int .i64 (sh:Int))/\W.cell? ⟨gb,0,none⟩=some (.string x.nm)/\W.cell? ⟨gb,1,none⟩=some (.int .i64 x.st)/\W.cell? ⟨gb,2,none⟩=some (.int .i64 x.ag.c)/\W.cell? ⟨gb,3,none⟩=some (.int .i64 x.ag.hi)/\W.cell? ⟨gb,4,none⟩=some (.int .u64 x.ag.lo)/\W.cell? ⟨gb,5,none⟩=some (.int .i64 x.ag.mn)/\W.cell? ⟨gb,6,none⟩=some (.int .i64 x.ag.mx))/\Below w5.heap.size w5 W)
     (first
       | with_reducible exact K0.out
       | with_reducible exact K6.out)
     (first
       | (go_at_call 286
          refine(H.out _).mono ?_;rintro e w6 ⟨rfl,D⟩;have K6:=zI (E.out _ ((qaa w5.heap.size w5).drew.trans D))))
    have Hq:=zI (G.out.below K6.out.2);go_split_ands;clear D;go_wp2_with fail
    go_roundw
    case rel=>exact⟨k+1,by omega,by go_num,Hq.out⟩
    case measure=>simp[intOf];omega
  · have Hr:k=rn:=by omega
    subst Hr;have U:=(qaa wr.heap.size wr).drew;have p:=o.bel.trans (U.mono o.bel.size);have Hs:=zI (J3t (c:=d) wr.drew (HT.out.below p) et Hg.out (s.out.below p) HB.out Hf.out Hd.out He.out);have Ht: ¬ F g4:=fun hh=>by have h1:=HT.out.ins g4 hh;have i:=P.out;omega
    have t6:=o.part.at_ 6 (v:= .slice B k d) rfl;have C:=zI (o.part.below U);have t6':=C.out.at_ 6 (v:= .slice B k d) rfl;have Hu:=zI (show Chg F w wr.drew from Chg.of_below p);clear U p o;go_upto_region 10 with fail
    go_region_with (first
     | (go_at_call 187
        refine Hs.out.mono ?_;rintro e w7 ⟨rfl,hJ,T⟩;have z6:=(C.out.chg T Ht).at_ 6 (v:= .slice B k d) rfl))
    all_goals
     have Hv:=zI hJ;have Hw:=zI (Hu.out.trans T (fun _ h=> .inl h));clear hJ T;go_wp2_with fail
     go_ret;exact⟨rfl,Hv.out,Hw.out⟩
noncomputable def ldT (t:Tv) (p:Pm):Tv:=t.setTab p.e.tier (addL (t.r.ev p.e.tier) (t.tab p.e.tier) p.l)
noncomputable def Jgv (t:Tv) (ps:List Pm):Tv:=ps.foldl ldT t
theorem Jws(t:Tv)(ps:List Pm)(p:Pm):Jgv t (ps++[p])=ldT (Jgv t ps) p:=by unfold Jgv;rw[qb0];rfl
theorem J8e(ps:List Pm):∀t:Tv,(Jgv t ps).r=t.r:=by
 induction ps with
 | nil=>intro t;rfl
 | cons p r ih=>intro t;exact ih (ldT t p)
theorem Jre(ps:List Pm):∀t:Tv,(Jgv t ps).tabs.length=t.tabs.length:=by
 induction ps with
 | nil=>intro t;rfl
 | cons p r ih=>intro t;exact(ih (ldT t p)).trans (Tv.setTab_len _ _ _)
structure LdOk (t:Tv) (ts:List Ti) (p:Pm):Prop where
 tier:p.e.tier<ts.length
 sh:∃sh:Nat,(∀K:p.e.tier<ts.length,(ts[p.e.tier]).sh=(sh:Int))/\1<=sh/\sh<=8/\p.e.shard<sh/\∀r∈p.l,shO sh r=p.e.shard
 n:p.l.length<=10000
 fit:∀r∈p.l,t.r.from_ p.e.tier<=r.st/\Jat (t.r.ev p.e.tier) r=true
 ev: -9223372036854775808<=t.r.ev p.e.tier/\t.r.ev p.e.tier<=9223372036854775807
 few:(t.tab p.e.tier).length+p.l.length<1000000
theorem J1a{G G':Nat ->Prop}{g N C B D R gd gen id mp bk:Nat}{lg:Option Addr}{bad:Int}(k i:Nat)(now:Int)(nm:ByteArray)(A:Option Addr)(n c:Nat)(B':Option Addr)(c2:Nat)(E:Option Addr)(en ec:Nat)(ts:List Ti)(fl:List Int)(ms:List Em)(P:Option Addr)(np pc:Nat)(ps:List Pm)(t:Tv)(w:World)(hX:Bo w g (Jdv N C B D R ⟨gd,0,none⟩ gen id mp bk lg bad))(hL:Jd3 N C B D R)(hC:Jgu w G' k i now nm A n c B' c2 E en ec ts fl ms)(hP:Jgt w G P np ps)(hG:Ins G w)(hf:Jnm ts fl)(hnp:np<=100)(hld:∀j (hj:j<ps.length),LdOk (Jgv ⟨⟨now,nm,ts,fl⟩,List.replicate n []⟩ (ps.take j)) ts ps[j])(ht:t=Jgv ⟨⟨now,nm,ts,fl⟩,List.replicate n []⟩ ps)(hfew:t.Few)(hneed:t.need<=(R:Int))(hAG:AIn G A):
  Cs 133 #[g,.agg (Ja0 k i now nm A n c B' c2 E en ec),.slice P np pc] w fun e w'=>∃g',e= .returned (.tuple #[(g':Nat),true])/\StAt w' (made w w') g' R t/\Below w.heap.size w w':=by
 obtain⟨hv,h1,h5,Hn,_⟩:=Py.check_fine hC.hck;obtain⟨w1,Y⟩:=exE (w.alloc (.cells (Ja0 k i now nm A n c B' c2 E en ec) 207));obtain⟨gc,M⟩:=exE w.heap.size;have s:Below w.heap.size w w1:=by rw[Y];exact(qaa _ w).alloc (qab _) _
 have L:Bx w1 gc 207 (Ja0 k i now nm A n c B' c2 E en ec):=by rw[Y,M];exact Bx.new w _ _
 have q:=hC.hts.len
 have Kf:=zI (Jxz nm A n c ts now B' n c2 fl w1 (fun W hW=>by
  have h:=Py.check_any nm A n c ts W hC.hnm hW hC.hc;rw[hC.hck] at h;exact h) (hC.hts.below s) hC.hc (hC.hfl.below s) hC.hnow hf (fun t ht=>(Hn t ht).ev.1) (by omega) hC.hnm)
 have Kg:=zI q;have Kh:=zI (hC.hts.below s);have Ki:1<=n/\n<=5:=by rw[<- q];exact⟨h1,h5⟩
 have HX:=zI hX;have Ho:=zI hL;have Kj:=zI (hP.below s);have Kk:=zI hG;have Kl:=zI hld;have HT:=zI ht;have Km:=zI hfew;have Kn:=zI hneed;have J:=zI s;have I:=zI L;have Hp:=zI M;have Ko:=zI Y;have Kp:=zI hAG;have Hq:=zI hP.len;have Kq:=zI (fun W=>J7n W);obtain⟨x0,x1,x2,x3,x4,x5,x6,x7,x8,x9,x10,x11⟩:=Jbk L;clear hX hL hC hP hG hld ht hfew hneed hAG s L M Y hv h1 h5 Hn q hf;go_enter Tryz.func133,Tryz.ntmps133;go_upto_region 1 with fail
 have Hr:w.alloc (.cells #[.int .u64 (k:Int),.int .u64 (i:Int),(now:Int),nm,.slice A n c,.slice B' n c2,ByteArray.empty,.slice none 0 0,.slice none 0 0,(0:Int),(0:Int),.slice E en ec] 207)=w1:=Ko.out.symm;rw[Hr,<- Hp.out];clear Hr;go_wp2_with fail
 refine Kf.out.mono ?_;rintro e w2 ⟨gt,rfl,Hs,p⟩;have Ht:=zI Hs;have Hu:=zI p;have Kr:=zI (I.out.below p);clear x0 x1 x2 x3 x4 x5 x6 x7 x8 x9 x10 x11 Hs p;obtain⟨x0,x1,x2,x3,x4,x5,x6,x7,x8,x9,x10,x11⟩:=Jbk Kr.out;go_wp2_with fail
 refine(Kq.out w2).mono ?_;rintro e w3 ⟨rfl,o⟩;have Hv:=o;have r:=zI (Hu.out.trans (o.mono Hu.out.size));obtain⟨F,hF⟩:∃F:Nat ->Prop,F=made w1 w2:=⟨_,rfl⟩;rw[<- hF] at Ht;have Ks:=zI (Ht.out.below o);have HF:=zI (show ∀x,F x ->w1.heap.size<=x/\x<w2.heap.size from fun x hx=>by rw[hF] at hx;exact hx);have Kt:=zI o.size;clear x0 x1 x2 x3 x4 x5 x6 x7 x8 x9 x10 x11 o Hv hF;go_wp2_with fail
 go_loopw [47] (fun j wr=>∃h:Nat,h<=np/\j= .int .i64 (h:Int)/\Jae wr F gt (Jgv ⟨⟨now,nm,ts,fl⟩,List.replicate n []⟩ (ps.take h))/\Chg F w3 wr) (fun j _=>np - (intOf j).toNat)
 case atStart=>exact⟨0,qaq _,rfl,by simpa[Jgv] using Ks.out,Chg.refl _ _⟩
 case round=>
  obtain⟨h,hh,rfl,hT,O⟩:=hrel;have Hw:=J.out.size;have Hx:=r.out.size;have l:Dj G F:=fun x hx hf=>by have h1:=Kk.out x hx;have h2:=(HF.out x hf).1;omega
  have V:=(Kj.out.below r.out).chg O l;have f: ¬ F gc:=fun hf=>by have h2:=(HF.out gc hf).1;have h3:=Hp.out;have h4:=I.out.lt;omega
  have H:=(I.out.below r.out).chg O f;have hJ:=(Kh.out.below r.out).chg O (Kp.out.dj l);by_cases q:h<np
  · have K:h<ps.length:=by rw[Hq.out];exact q
    obtain⟨b2,o2,Ku,p,y⟩:=V.get K;have Ha:=V.row _ (qal K);have Kv:=Kl.out h K;have Kw:=zI (show ps.take (h+1)=ps.take h++[ps[h]] from qak K);generalize ps[h]'K=x at*;have U:=zI (Jws ⟨⟨now,nm,ts,fl⟩,List.replicate n []⟩ (ps.take h) x);rw[<- Kw.out] at U;have Hy:=zI (show(Jgv ⟨⟨now,nm,ts,fl⟩,List.replicate n []⟩ (ps.take h)).tabs.length=n from by rw[Jre];simp);generalize Jgv ⟨⟨now,nm,ts,fl⟩,List.replicate n []⟩ (ps.take h)=T at*;obtain⟨⟨eid,et,es,bl⟩,xl,xA,xc,xB,xd⟩:=x;unfold ldT at U;dsimp only at U;obtain⟨Hb,⟨sh,Hc,Hz,H0,Hd,He⟩,Hf,Hg,Hh,d⟩:=Kv;dsimp only at Hb Hc Hd He Hf Hg Hh d;obtain⟨m,hm⟩:=exE bl.length;obtain⟨rn,Z⟩:=exE xl.length;have p0:wr.cell? ⟨b2,o2+h*7,none⟩=some (.int .u64 (eid:Int)):=y.c0;have p1:wr.cell? ⟨b2,o2+h*7+1,none⟩=some (.int .i64 (et:Int)):=y.c1;have p2:wr.cell? ⟨b2,o2+h*7+2,none⟩=some (.int .i64 (es:Int)):=y.c2;have p3:wr.cell? ⟨b2,o2+h*7+3,none⟩=some (.int .i64 0):=y.c3;have p4:wr.cell? ⟨b2,o2+h*7+4,none⟩=some (.int .i64 (m:Int)):=by rw[hm];exact y.c4
    have p5:wr.cell? ⟨b2,o2+h*7+5,none⟩=some (.slice (adr xA) m xc):=by rw[hm];exact y.c5
    have p6:wr.cell? ⟨b2,o2+h*7+6,none⟩=some (.slice (adr xB) rn xd):=by rw[Z];exact y.c6
    subst Ku;obtain⟨gb,Hi⟩:=exE wr.heap.size;obtain⟨wb,S⟩:=exE (wr.alloc (.cells #[.int .u64 (eid:Int),(et:Int),(es:Int),(0:Int),(m:Int),.slice (adr xA) m xc,.slice (adr xB) rn xd] 316));have z:=Bx.new wr 316 #[.int .u64 (eid:Int),(et:Int),(es:Int),(0:Int),(m:Int),.slice (adr xA) m xc,.slice (adr xB) rn xd];have u:=(qaa wr.heap.size wr).alloc (qab _) (.cells #[.int .u64 (eid:Int),(et:Int),(es:Int),(0:Int),(m:Int),.slice (adr xA) m xc,.slice (adr xB) rn xd] 316);rw[<- S,<- Hi] at z;rw[<- S] at u;have Hj:=Ha.rc.below u;rw[<- Z] at Hj;have Kx:et<n:=by rw[<- Kg.out];exact Hb
    have H9:=zI (J40 (F:=F) (gt:=gt) (t:=T) eid et es m (adr xA) xc (adr xB) rn xd xl nm A n c ts wb (hT.below u) (hJ.below u) (by rw[Hy.out];exact Kx) Hy.out.symm sh Hc ⟨Hz,H0⟩ Hd Hj (fun a e hf=>l _ (Ha.inB a e) hf) (by rw[Z];exact Hf) He Hg Hh (by rw[Z];exact d) Ki.2);rw[<- U.out] at H9;have d5:decide ((et:Int)<5)=true:=qan (by omega);have d6:decide ((5:Int)<=(et:Int))=false:=qae (by omega);have Ky:=zI S;have Kz:=zI Hi;have KC:=zI (O.then_below u);have y0:=z.at_ 0 (v:= .int .u64 (eid:Int)) rfl;have y1:=z.at_ 1 (v:= (et:Int)) rfl;have y2:=z.at_ 2 (v:= (es:Int)) rfl;have y3:=z.at_ 3 (v:= (0:Int)) rfl;have y4:=z.at_ 4 (v:= (m:Int)) rfl;have y5:=z.at_ 5 (v:= .slice (adr xA) m xc) rfl;have y6:=z.at_ 6 (v:= .slice (adr xB) rn xd) rfl;have Ka:=zI (H.below u);have KD:=zI z;have KE:=zI (show ¬ F gb from fun hf=>by have h2:=(HF.out gb hf).2;have h3:=Kt.out;have h4:=O.size;omega);have x3:=Ka.out.at_ 3 (v:= nm) rfl;have x4:=Ka.out.at_ 4 (v:= .slice A n c) rfl;clear Hw Hx l V f H hJ y Ha Hb Hc Hz H0 Hd He Hf Hg Hh d hm Z Hi S z u Hj hT O p;go_upto_region 12 with fail
    rw[<- Ky.out,<- Kz.out];clear p0 p1 p2 p3 p4 p5 p6;go_wp2_with fail
    refine H9.out.mono ?_;rintro e w7 ⟨rfl,Kb,Hk⟩;have KG:=zI Kb;have KH:=zI (KC.out.trans Hk (fun _ h=> .inl h));have Kc:=KD.out.chg Hk KE.out;clear Kb Hk y0 y1 y2 y3 y4 y5 y6 x3 x4;have y1:=Kc.at_ 1 (v:= (et:Int)) rfl;clear Kc;go_wp2_with fail
    go_roundw
    case rel=>exact⟨h+1,by omega,by go_num,KG.out,KH.out⟩
    case measure=>simp[intOf];omega
  · have KI:h=np:=by omega
    subst KI;rw[show ps.take h=ps from qao (by rw[Hq.out];exact qab _),<- HT.out] at hT;have Hl:Below w.heap.size w wr:=J.out.trans (((r.out).trans (O.below (fun x hx=>(HF.out x hx).1) r.out.size)).mono J.out.size)
    have KJ:=zI (Jzc wr (by have:=Ho.out.bd;have:=Ho.out.n;omega) hT (by
     have h1:=hT.len;rw[HT.out,Jre] 
     simp
     omega) Km.out Kn.out)
    have x6:=(HX.out.below Hl).at_ 6 (v:= (R:Int)) rfl;have Hm:=zI Hl;clear Hl hT O Hw Hx l V f H hJ;go_wp2_with fail
    refine KJ.out.mono ?_;rintro e w9 ⟨g',rfl,Kd,Ke⟩;have KK:=zI (Kd.sub (G:=made w w9) (fun b hb=>⟨qat Hm.out.size hb.1,hb.2⟩) (fun b hb=>hb.2));have KL:=zI (Hm.out.trans (Ke.mono Hm.out.size));clear Kd Ke x6;go_wp2_with fail
    go_ret2;exact⟨g',rfl,KK.out,KL.out⟩
end Go.Proofs.YtglmhddbhhcjdaaGreatDoor
