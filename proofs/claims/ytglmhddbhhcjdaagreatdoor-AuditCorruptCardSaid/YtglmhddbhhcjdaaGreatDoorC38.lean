/- Laws that the walk of the last text wants. -/
import Derived.Test.YtglmhddbhhcjdaaGreatDoorC34
import Derived.Test.YtglmhddbhhcjdaaGreatDoorC37
set_option maxRecDepth 100000
set_option linter.unusedSimpArgs false
set_option maxHeartbeats 4000000
namespace Go.Proofs.YtglmhddbhhcjdaaGreatDoor
open Go.RowKit
theorem Jgz.chg{w w':World}{F G:Nat ->Prop}{g i:Nat}{now:Int}{nm:ByteArray}{A:Option Addr}{n c:Nat}{B:Option Addr}{c2:Nat}{E:Option Addr}{en ec:Nat}{ts:List Ti}{fl:List Int}{ms:List Em}(h:Jgz w F g i now nm A n c B c2 E en ec ts fl ms)(hc:Chg G w w')(hd:Dj F G)(hA:AIn F A)(hB:AIn F B):Jgz w' F g i now nm A n c B c2 E en ec ts fl ms:=
 ⟨h.hg,h.hi,h.hnow,h.hnm,h.hts.chg hc (hA.dj hd),h.hc,h.hck,h.hfl.chg hc (hB.dj hd),h.hflo,h.hes.chg hc hd,h.hen,h.hok,h.hsh,h.hbl,h.hlen⟩
theorem Jgz.sub{w:World}{F G:Nat ->Prop}{g i:Nat}{now:Int}{nm:ByteArray}{A:Option Addr}{n c:Nat}{B:Option Addr}{c2:Nat}{E:Option Addr}{en ec:Nat}{ts:List Ti}{fl:List Int}{ms:List Em}(h:Jgz w F g i now nm A n c B c2 E en ec ts fl ms)(hs:∀b,F b ->G b):Jgz w G g i now nm A n c B c2 E en ec ts fl ms:=
 ⟨h.hg,h.hi,h.hnow,h.hnm,h.hts,h.hc,h.hck,h.hfl,h.hflo,h.hes.sub hs,h.hen,h.hok,h.hsh,h.hbl,h.hlen⟩
theorem DsAt.sblocks{w:World}{F:Nat ->Prop}{g N q:Nat}{f:Int ->Option ByteArray}(h:DsAt w F g N q f)(A:Option Addr)(n c:Nat)(zs:List Int)(hz:Ints w .i64 A n zs)(hin:∀z∈zs,0<=z/\z<(N:Int))(hn:n<=900000):
  Cs 212 #[g,.slice A n c] w fun e w'=>∃v,e= .returned (.tuple #[v,(0:Int)])/\w'.ownsRow w.heap.size 9 1 v n (bksL f zs)/\Below w.heap.size w w':=by
 obtain⟨_,_,_,h,_⟩:=h;exact Jxa w h A n c zs hz hin hn
def catZ (a j:Nat):List Int:=(List.range j).map fun q=>((a+q:Nat):Int)
theorem Jri(a j:Nat):catZ a (j+1)=catZ a j++[((a+j:Nat):Int)]:=by unfold catZ;rw[qbw,qbg];rfl
theorem J5n(a j:Nat):(catZ a j).length=j:=by simp[catZ]
theorem Jrj(f:Int ->Option ByteArray)(a nb:Nat)(l:List UInt8)(h:∀j,j<nb ->Jav f ((a+j:Nat):Int)=chC l j):∀j,j<=nb ->bksL f (catZ a j)=(List.range j).map fun q=>Value.string (chC l q)
 | 0,_=>rfl
 | j+1,hj=>by
   rw[Jri,Jrc,Jrj f a nb l h j (by omega),h j (by omega),qbw,qbg];rfl
theorem J5o(l:List UInt8)(j:Nat):strOf ((padC l).take (256*j))++chC l j=strOf ((padC l).take (256*(j+1))):=by
 unfold chC;rw[Jc8,show 256*(j+1)=256*j+256 from by omega,List.take_add]
theorem J5p(l:List UInt8):(strOf ((padC l).take (256*nbC l))).extract 0 l.length=strOf l:=by
 rw[qap (by rw[Jil];omega)];unfold padC;exact Jdp l _
theorem J11{F:Nat ->Prop}{g N C B D R gd gen id mp bk q:Nat}{lg:Option Addr}{bad:Int}{f:Int ->Option ByteArray}(k i:Nat)(now:Int)(nm:ByteArray)(ts:List Ti)(fl:List Int)(es:List En)(l:List UInt8)(w:World)(hX:Bo w g (Jdm N C B D R ⟨gd,0,none⟩ gen id mp bk lg bad))(hD:DsAt w F gd N q f)(hL:Jd3 N C B D R)(hl:l=catB k i now (Py.printL nm.toList ts) fl es)(hf:Jik k i now nm ts fl es)(hG:Glo w)(hlen:l.length<=C*256)(hon:∀j,j<nbC l ->Jav f ((Jb5 B k+j:Nat):Int)=chC l j):
  Cs 131 #[g,.agg #[.int .u64 (k:Int),(N:Int),(l.length:Int)]] w fun e w'=>∃A c B' c2 E ec ms,e= .returned (.tuple #[.agg (Ja1 k i now nm A ts.length c B' c2 E es.length ec),(0:Int)])/\ms.map Em.e=es/\
   Jgz w' (made w w') k i now nm A ts.length c B' c2 E es.length ec ts fl ms/\AIn (made w w') A/\AIn (made w w') B'/\Below w.heap.size w w':=by
 obtain⟨n,hn⟩:=exE ts.length;obtain⟨en,hJ⟩:=exE es.length;rw[<- hn,<- hJ];have HN:=zI hn;have Kv:=zI hJ;clear hn hJ;have Ha:=hL.bd;have hN:=hL.n;obtain⟨L,m⟩:=exE l.length;obtain⟨nb,Hb⟩:=exE (nbC l);have Hc:nb=(L+255) / 256:=by rw[Hb,m];rfl
 have Tk:L<=7680:=by rw[m];omega
 have Kw:nb<=30:=by omega
 have H:nb<=C:=by rw[m] at Hc;omega
 obtain⟨a,ha⟩:=exE (Jb5 B k);have Hu:a+nb<=N/\a<=48:=by rw[ha];unfold Jb5;split<;>omega
 rw[<- m];have d1:decide ((C:Int)*256<(L:Int))=false:=qae (by rw[m];omega);obtain⟨gs,Hd⟩:=exE w.heap.size;obtain⟨gr,He⟩:=exE (w.heap.size+1);obtain⟨w0,d⟩:=exE ((w.alloc (.cells #[.int .u64 (k:Int),(N:Int),(L:Int)] 202)).alloc (.cells zCat 207));have Hv:(w.alloc (.cells #[.int .u64 (k:Int),(N:Int),(L:Int)] 202)).heap.size=w.heap.size+1:=by simp
 have Z:Below w.heap.size w w0:=by rw[d];exact((qaa _ w).alloc (qab _) _).alloc (by simp) _
 have T:Bx w0 gs 202 #[.int .u64 (k:Int),(N:Int),(L:Int)]:=by rw[d,Hd];exact(Bx.new w _ _).alloc _
 have Hw:Bx w0 gr 207 zCat:=by
  have:=Bx.new (w.alloc (.cells #[.int .u64 (k:Int),(N:Int),(L:Int)] 202)) 207 zCat;rw[Hv,<- He] at this;rw[d];exact this
 have Hf:=zI (hX.below Z);have Kx:=zI (hD.below Z);have Ky:=zI T;have Kz:=zI Hw;have Hx:=zI Z;have KC:=zI d;have KD:=zI Hd;have Hy:=zI He;have KE:=zI (hG.below Z);have KG:=zI hf;have HL:=zI hl;have KH:=zI m;have P:=zI Hb;have Hz:=zI Hc;have HA:=zI ha;have Hg:=zI Hu;have Hh:=zI hon;have Hi:=(qaa w0.heap.size w0).drew;have s2:=T.at_ 2 (v:= (L:Int)) rfl;have s2':=(T.below Hi).at_ 2 (v:= (L:Int)) rfl;have x4:=Hf.out.at_ 4 (v:= (C:Int)) rfl;have x4':=(Hf.out.below Hi).at_ 4 (v:= (C:Int)) rfl;have Te:=zI Ha;have KI:=zI hN;have Tf:C<=30:=Ha.2.1;have Tg:=zI hlen;have Th:=zI H;clear hX hD hL hl hf hG hlen hon Ha hN m Hb Hc ha Hu Hd He d Hv Z T Hw Hi H;go_enter Tryz.func131,Tryz.ntmps131;go_upto_region 1 with fail
 rw[<- KC.out,<- Hy.out,<- KD.out];go_region
 obtain⟨w1,Hj⟩:=exE w0.drew;have h:Below w0.heap.size w0 w1:=by rw[Hj];exact(qaa w0.heap.size w0).drew
 rw[<- Hj];have H0:=zI (Hf.out.below h);have KJ:=zI (Kx.out.below h);have O:=zI (Ky.out.below h);have H9:=zI (Kz.out.below h);have Hk:=zI (Hx.out.trans (h.mono Hx.out.size));have KK:=zI (KE.out.below h);have KL:=zI (fun W (hW:Below w1.heap.size w1 W)=>Jur k (H0.out.below hW));clear Hj h s2 s2' x4 x4' d1;go_wp2_with fail
 go_loopw [6,7] (fun o i wr=>∃ (j:Nat) (E:Option Addr) (ec:Nat),j<=nb/\i= .int .i64 ((256*j:Nat):Int)/\o= .slice E j ec/\wr.ownsRow w1.heap.size 3 1 (.slice E j ec) j ((catZ a j).map (Value.int .i64))/\Below w1.heap.size w1 wr) (fun _ i _=>256*nb - (intOf i).toNat)
 case atStart=>exact⟨0,none,0,qaq _,rfl,rfl,qaz _ _ _ _,qaa _ _⟩
 case round=>
  obtain⟨j,E,ec,hj,rfl,rfl,hr,r⟩:=hrel;have s2:=(O.out.below r).at_ 2 (v:= (L:Int)) rfl;have Hl:=zI r;have Tm:=zI hr;by_cases Hm:j<nb
  · have Hn:256*j<L:=by have:=Hz.out;omega
    have s0:=(O.out.below r).at_ 0 (v:= .int .u64 (k:Int)) rfl;have HW:=zI (KL.out wr r);rw[<- HA.out] at HW;have KM:=zI (Jri a j);obtain⟨ii,G⟩:=exE (256*j);rw[<- G] at Hn ⊢;have hq:(ii:Int) / 256=(j:Int):=by rw[G];omega
    have HI:=zI G;have Tj:a<=48:=Hg.out.2;have M:=(qaa wr.heap.size wr).alloc (qab _) (.cells #[((a:Int)+(j:Int):Int)] 3);have Ka:=zI (Jaf hr M);have KN:=zI (Sl.new wr 3 wr.heap.size [((a:Int)+(j:Int):Int)] #[((a:Int)+(j:Int):Int)] rfl rfl);have Hh:=zI (show ∀u∈[Value.int .i64 ((a:Int)+(j:Int))],u.oneCell'=true from by intro u hu;rw[qa1.1 hu];rfl);have KO:=zI (show j+1<=1000000 from by omega);have Kb:=zI (show w1.heap.size<=(wr.alloc (.cells #[((a:Int)+(j:Int):Int)] 3)).heap.size from qax r.size M.size);have KP:=zI (r.trans (M.mono r.size));clear G r hr M;go_wp2_with fail
    refine HW.out.mono ?_;rintro e w4 ⟨rfl,KQ⟩;subst KQ;go_wp2_with (at_builtin;refine Jyd rfl _ _ rfl Ka.out rfl (some ⟨wr.heap.size,0,none⟩) 1 1 [((a:Int)+(j:Int):Int)] rfl rfl KN.out Hh.out KO.out Kb.out ?_;intro E' ec' w5 Kc Kd)
    have KR:=zI (show w5.ownsRow w1.heap.size 3 1 (.slice E' (j+1) ec') (j+1) ((catZ a (j+1)).map (Value.int .i64)) from by
     rw[KM.out,qbg];exact Kc)
    have KS:=zI (Jbd Ka.out Kd KP.out Kb.out);clear Kc Kd s0 s2 hq;go_wp2_with fail
    go_roundw
    case rel=>exact⟨j+1,E',ec',by omega,by rw[HI.out];go_num,rfl,KR.out,KS.out⟩
    case measure=>have hI:=HI.out;simp[intOf];omega
  · have KT:j=nb:=by omega
    subst KT;have Hn:L<=256*j:=by have:=Hz.out;omega
    obtain⟨ii,G⟩:=exE (256*j);rw[<- G] at Hn ⊢;have HI:=zI G;obtain⟨_,_,e2,Ke⟩:=Jao hr;cases e2
    have Kf:Ints wr .i64 E j (catZ a j):=⟨Ke,J5n a j,by unfold maxLen;omega,fun z hz=>by
     unfold catZ at hz;obtain⟨x,hx,rfl⟩:=qbn.1 hz;have h1:=Hg.out;have h2:=qce.1 hx;have h3:=KI.out;exact Jcd (by omega)⟩
    have Kg:=zI ((KJ.out.below r).sblocks E j ec (catZ a j) Kf (fun z hz=>by
     unfold catZ at hz;obtain⟨x,hx,rfl⟩:=qbn.1 hz;have h1:=Hg.out;have h2:=qce.1 hx;omega) (by omega))
    rw[Jrj f a j l (by rw[HA.out,P.out];exact Hh.out) j (qab _)] at Kg;have x7:=(H0.out.below r).at_ 7 (v:= gd) rfl;clear G hr r Ke Kf;go_wp2_with fail
    refine Kg.out.mono ?_;rintro e w4 ⟨vr,rfl,Ho,K⟩;obtain⟨A4,c4,rfl,_⟩:=Jao Ho;have KU:=zI (show gr<w4.heap.size from qar H9.out.lt (qax Hl.out.size K.size));have V:=zI (Hl.out.trans (K.mono Hl.out.size));have KV:=zI Ho;clear s2 x7 Ho K;go_wp2_with fail
    go_loopw [10,55] (fun s i wr=>∃ (p:Nat),p<=j/\i= .int .i64 (p:Int)/\s= .string (strOf ((padC l).take (256*p)))/\wr=w4) (fun _ i _=>j - (intOf i).toNat)
    case atStart=>exact⟨0,qaq _,rfl,by simp[strOf],rfl⟩
    case round=>
     obtain⟨p,hp,rfl,rfl,rfl⟩:=hrel;by_cases Hm:p<j
     · obtain⟨_,_,e4,Kh⟩:=Jao KV.out
       cases e4
       obtain⟨b4,o4,rfl,K,Ki⟩:=Kh.at_ (by intro e;have:=congrArg List.length e;simp at this;omega);have c4':=Ki p (chC l p) (by rw[qb3,qde Hm];rfl);have HY:=zI (J5o l p);obtain⟨X,hX⟩:=exE (strOf ((padC l).take (256*p)));obtain⟨Y,hY⟩:=exE (chC l p);have KW:X.size<=10000:=by rw[hX,Jaa,qao];omega
       have Tn:Y.size<=300:=by rw[hY,Ju6 l p (by rw[<- P.out];exact Hm)];omega
       rw[<- hX,<- hY] at HY;rw[<- hX];rw[<- hY] at c4';clear Kh Ki hX hY;go_wp2_with fail
       rw[HY.out];go_roundw
       case rel=>exact⟨p+1,by omega,by go_num,rfl,trivial⟩
       case measure=>simp[intOf];omega
     · have KX:p=j:=by omega
       subst KX;have J:=zI (J8n k i now nm ts fl es wr KG.out (KK.out.below V.out));rw[<- HL.out] at J;obtain⟨X,hX⟩:=exE (strOf ((padC l).take (256*p)));obtain⟨S,hS⟩:=exE (strOf l);have KY:X.size=256*p:=by rw[hX,Jaa,qao,Jil,<- P.out];omega
       have To:L<=X.size:=by have:=HI.out;omega
       have KW:X.size<=10000:=(by omega);have KZ:=zI (show X.extract 0 L=S from by rw[hX,hS,P.out,KH.out];exact J5p l);rw[<- hX];rw[<- hS] at J;have s2:=(O.out.below V.out).at_ 2 (v:= (L:Int)) rfl;rw[<- HN.out,<- Kv.out] at J;clear hX hS KY;go_wp2_with fail
       rw[KZ.out];refine J.out.mono ?_;rintro e w6 ⟨A,c,B',c2,E6,ec6,ms,rfl,Kj,Kk,Kl,Km,Kn⟩;have K7:=zI Kj;have K8:=zI V.out.size;have Ko:=zI (V.out.trans (Kn.mono V.out.size));obtain⟨w7,I⟩:=exE (w6.alloc (.cells (Ja1 k i now nm A n c B' c2 E6 en ec6) 207));obtain⟨gc,Hp⟩:=exE w6.heap.size;have Hq:=Bx.new w6 207 (Ja1 k i now nm A n c B' c2 E6 en ec6);have U:=(qaa w6.heap.size w6).alloc (qab _) (.cells (Ja1 k i now nm A n c B' c2 E6 en ec6) 207);rw[<- I,<- Hp] at Hq;rw[<- I] at U;have Hr:=zI (Ko.out.trans (U.mono Ko.out.size));have K9:=zI (Kk.below U);have Kp:=zI Kl;have Kq:=zI Km;have Ta:=zI U.size;have Tb:=zI I;have Tc:=zI Hp;have t0:=(O.out.below Hr.out).at_ 0 (v:= .int .u64 (k:Int)) rfl;obtain⟨x0,x1,x2,x3,x4,x5,x6,x7,x8,x9,x10,x11⟩:=Jbm Hq;have t:=H9.out.below Hr.out;have HY:=zI t;have y0:=t.at_ 0 rfl;have y1:=t.at_ 1 rfl;have y2:=t.at_ 2 rfl;have y3:=t.at_ 3 rfl;have y4:=t.at_ 4 rfl;have y5:=t.at_ 5 rfl;have y6:=t.at_ 6 rfl;have y7:=t.at_ 7 rfl;have y8:=t.at_ 8 rfl;have y9:=t.at_ 9 rfl;have y10:=t.at_ 10 rfl;have y11:=t.at_ 11 rfl;have f0:=t.free 0;have f1:=t.free 1;have f2:=t.free 2;have f3:=t.free 3;have f4:=t.free 4;have f5:=t.free 5;have f6:=t.free 6;have f7:=t.free 7;have f8:=t.free 8;have f9:=t.free 9;have f10:=t.free 10;have f11:=t.free 11;clear Kj Kk Kl Km Kn U Hq I Hp t s2;go_upto_region 18 with fail
       have Kr:w6.alloc (.cells #[.int .u64 (k:Int),.int .u64 (i:Int),(now:Int),nm,.slice A n c,.slice B' n c2,ByteArray.empty,(),(),(0:Int),(0:Int),.slice E6 en ec6] 207)=w7:=Tb.out.symm;rw[Kr,<- Tc.out];clear Kr;go_wp2_with fail
       clear x0 x1 x2 x3 x4 x5 x6 x7 x8 x9 x10 x11 y0 y1 y2 y3 y4 y5 y6 y7 y8 y9 y10 y11 f0 f1 f2 f3 f4 f5 f6 f7 f8 f9 f10 f11;obtain⟨w8,Hs⟩:=exE (putC w7 gr 0 [.int .u64 (k:Int),.int .u64 (i:Int),(now:Int),nm,.slice A n c,.slice B' n c2,ByteArray.empty,(),(),(0:Int),(0:Int),.slice E6 en ec6]);have y:=Jaw HY.out [.int .u64 (k:Int),.int .u64 (i:Int),(now:Int),nm,.slice A n c,.slice B' n c2,ByteArray.empty,(),(),(0:Int),(0:Int),.slice E6 en ec6] rfl;have Ks:=Jaj (B:=w.heap.size) [.int .u64 (k:Int),.int .u64 (i:Int),(now:Int),nm,.slice A n c,.slice B' n c2,ByteArray.empty,(),(),(0:Int),(0:Int),.slice E6 en ec6] (show w.heap.size<=gr from by have:=Hy.out;omega) w7 0;have Ht:=Jcb (g:=gr) [.int .u64 (k:Int),.int .u64 (i:Int),(now:Int),nm,.slice A n c,.slice B' n c2,ByteArray.empty,(),(),(0:Int),(0:Int),.slice E6 en ec6] w7 0;rw[<- Hs] at y Ks Ht;simp only[putC,qa7,Nat.reduceAdd] at Hs;rw[<- Hs];have q0:=y.at_ 0 rfl;have q1:=y.at_ 1 rfl;have q2:=y.at_ 2 rfl;have q3:=y.at_ 3 rfl;have q4:=y.at_ 4 rfl;have q5:=y.at_ 5 rfl;have q6:=y.at_ 6 rfl;have q7:=y.at_ 7 rfl;have q8:=y.at_ 8 rfl;have q9:=y.at_ 9 rfl;have q10:=y.at_ 10 rfl;have q11:=y.at_ 11 rfl;have Tp:=KU.out;have Td:Dj (made wr w6) (fun b=>b=gr):=fun b r e=>by have:=r.1;omega
       have Kt:w6.heap.size<=w8.heap.size:=qax Ta.out Ht.size;have up:∀b,made wr w6 b ->made w w8 b:=fun b r=>⟨qax (qax Hk.out.size K8.out) r.1,qar r.2 Kt⟩;have Ku:=(K9.out.chg Ht Td Kp.out Kq.out).sub up;refine qa6 (v:= .tuple #[.agg (Ja1 k i now nm A n c B' c2 E6 en ec6),(0:Int)]) (by simp[results,Tryz.results131,go_sem,q0,q1,q2,q3,q4,q5,q6,q7,q8,q9,q10,q11]) rfl ⟨A,c,B',c2,E6,ec6,ms,rfl,K7.out,Ku,Kp.out.sub up,Kq.out.sub up,(Hk.out.trans (Hr.out.mono Hk.out.size)).trans Ks⟩
