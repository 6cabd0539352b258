/-
  Several texts in one: Open, Brc, Disk, Engs.
-/
import Derived.Test.YtglmhddbhhcjdaaGreatDoorV42
import Derived.Test.YtglmhddbhhcjdaaGreatDoorV41
set_option maxRecDepth 100000
set_option linter.unusedSimpArgs false
set_option maxHeartbeats 4000000
namespace Go.Proofs.YtglmhddbhhcjdaaGreatDoor
open Go.RowKit
theorem DsAt.supread{w:World}{F:Nat ->Prop}{g N q:Nat}{f:Int ->Option ByteArray}(h:DsAt w F g N q f)(hN:2<=N)(o0 o1:Option (Nat×Nat×Nat))(h0:Jlo (Jbd f 0) o0)(h1:Jlo (Jbd f 1) o1):
  Cs 130 #[g] w (RB w (supR N (bsts o0 o1 2))):=by
 obtain⟨_,_,_,h,_⟩:=h;exact Jwk h hN o0 o1 h0 h1
theorem DsAt.wread{w:World}{F:Nat ->Prop}{g N q:Nat}{f:Int ->Option ByteArray}(h:DsAt w F g N q f)(a gen:Nat)(rs:List (List UInt8))(ha:a+16<=N)(hgen:1<=gen)(hg2:gen<18446744073709551616)(hl:Jdz f a gen rs):
  Cs 135 #[g,(a:Int),(16:Int),.int .u64 (gen:Int)] w fun e w'=>∃v,e= .returned (.tuple #[v,(0:Int)])/\w'.ownsRow w.heap.size 9 1 v rs.length (rs.map fun l=>Value.string (strOf l))/\Below w.heap.size w w':=by
 obtain⟨_,_,_,h,_⟩:=h;have:=J4m w h a 16 gen (by omega) ha (qab _) hgen hg2;rw[hl.read hg2] at this;exact this
structure Jmy (f:Int ->Option ByteArray) (N C B D R k i:Nat) (now:Int) (nm:ByteArray) (ts:List Ti) (fl:List Int) (es:List En) (rs:List (List Rc)) (l:List UInt8) (t:Tv) (lr:List (List UInt8)):Prop where
 cat:l=catB k i now (Py.printL nm.toList ts) fl es
 fit:Jic k i now nm ts fl es
 len:l.length<=C*256
 on:∀j,j<nbC l ->Jbd f ((Jck B k+j:Nat):Int)=chC l j
 sup:∃o0 o1,Jlo (Jbd f 0) o0/\Jlo (Jbd f 1) o1/\bsts o0 o1 2=(k,N,l.length)
 rl:rs.length=es.length
 seg:∀j (h1:j<es.length) (h2:j<rs.length),SegR f D N es[j] rs[j]
 flo:Jnm ts fl
 ld:∀ps:List Pm,ps.map Pm.e=es ->ps.map Pm.l=rs ->(∀j (hj:j<ps.length),LdOk (Jgv ⟨⟨now,nm,ts,fl⟩,List.replicate ts.length []⟩ (ps.take j)) ts ps[j])/\t=Jgv ⟨⟨now,nm,ts,fl⟩,List.replicate ts.length []⟩ ps/\Jk0 D N ps
 few:t.Few
 need:t.need<=(R:Int)
 log:Jdz f 2 k lr
structure OpS (w w':World) (FB FS F:Nat ->Prop) (gx mp B0:Nat):Prop where
 low:w.heap.size<=gx/\w.heap.size<=mp/\∀x,FB x ->w.heap.size<=x
 st:∀x,FS x ->w.heap.size<=x/\Apart FB F gx w' x/\x≠mp
 row:w.heap.size<=B0/\∀x,FS x ->x<B0
theorem J8f{F:Nat ->Prop}{gd N C B D R q:Nat}{f:Int ->Option ByteArray}(k i:Nat)(now:Int)(nm:ByteArray)(ts:List Ti)(fl:List Int)(es:List En)(rs:List (List Rc))(l:List UInt8)(t:Tv)(lr:List (List UInt8))(w:World)(hD:DsAt w F gd N q f)(hL:Jd3 N C B D R)(hG:Glo w)(hO:Jmy f N C B D R k i now nm ts fl es rs l t lr):
  Cs 69 #[gd] w fun e w'=>∃gx gs mp bk FB FS ps v B0,e= .returned (.tuple #[(gx:Nat),(gs:Nat),v,(0:Int)])/\ps.map Pm.e=es/\ps.map Pm.l=rs/\w'.ownsRow B0 9 1 v lr.length (lr.map fun l=>Value.string (strOf l))/\
   SvS w' FB F gx N C B D R gd k i mp bk q ps.length none 0 (mapOf ps) (usOf ps) none (Jc4 ps) none f/\StAt w' FS gs R t/\OpS w w' FB FS F gx mp B0/\Below w.heap.size w w':=by
 obtain⟨o0,o1,Ko,Kp,Kq⟩:=hO.sup;have a:=hD.supread (by have:=hL.n;omega) o0 o1 Ko Kp;rw[Kq] at a;have KU:1<=k:=hO.fit.hg.1;obtain⟨L,Hx⟩:=exE l.length;rw[<- Hx] at a;unfold supR supV at a;rw[qav (by simp;omega)] at a;dsimp only at a;have a:=zI a;have K:=fun W=>Jod N W hL.n.1 hL.n.2;rw[<- hL.d,<- hL.b,<- hL.c,<- hL.r] at K;have KV:=zI K;have HD:=zI hD;have O:=zI hL;have HG:=zI hG;have Y:=zI hO;have KW:=zI Hx;clear hD hL hG hO Hx K Ko Kp Kq;go_enter Tryz.func69,Tryz.ntmps69;go_wp2_with fail
 refine a.out.mono ?_;rintro e w1 ⟨rfl,Hy⟩;obtain⟨g6,Hz⟩:=exE w1.heap.size;obtain⟨w2,Hd⟩:=exE (w1.alloc (.cells #[.int .u64 (k:Int),(N:Int),(L:Int)] 202));have He:=Bx.new w1 202 #[.int .u64 (k:Int),(N:Int),(L:Int)];rw[<- Hd,<- Hz] at He;have Kr:Below w.heap.size w w2:=by rw[Hd];exact Hy.alloc Hy.size _
 have KX:=zI Hd;have KY:=zI Hz;have KZ:=zI He;have Ks:=zI Kr;have s1:=He.at_ 1 (v:= (N:Int)) rfl;clear Hy Hz Hd He Kr;go_upto_region 6 with fail
 rw[<- KX.out,<- KY.out];go_wp2_with fail
 refine(KV.out w2).mono ?_;rintro e w3 ⟨rfl,H0⟩;obtain⟨g8,H9⟩:=exE w3.heap.size;obtain⟨w4,Hf⟩:=exE (w3.alloc (.cells #[(N:Int),(2:Int),(18:Int),(B:Int),(C:Int),(D:Int),(R:Int)] 64));have u:=Bx.new w3 64 #[(N:Int),(2:Int),(18:Int),(B:Int),(C:Int),(D:Int),(R:Int)];rw[<- Hf,<- H9] at u;have Ka:Below w2.heap.size w2 w4:=by rw[Hf];exact H0.alloc H0.size _
 have K7:=zI Hf;have K8:=zI H9;have Kb:=zI u;have Kc:=zI (Ks.out.trans (Ka.mono Ks.out.size));have K9:=zI (KZ.out.below Ka);have l0:=u.at_ 0 (v:= (N:Int)) rfl;have l1:=u.at_ 1 (v:= (2:Int)) rfl;have l2:=u.at_ 2 (v:= (18:Int)) rfl;have l3:=u.at_ 3 (v:= (B:Int)) rfl;have l4:=u.at_ 4 (v:= (C:Int)) rfl;have l5:=u.at_ 5 (v:= (D:Int)) rfl;have l6:=u.at_ 6 (v:= (R:Int)) rfl;have Ta:=zI (Juh N C B D R gd w4 O.out);clear H0 H9 Hf u Ka s1;go_upto_region 7 with fail
 rw[<- K7.out,<- K8.out];go_wp2_with fail
 refine Ta.out.mono ?_;rintro e w5 ⟨gx,mp,bk,FB,rfl,hB⟩;have Hg:=Kc.out.trans (hB.bel.mono Kc.out.size);have Kd:=zI Hg;have Ke:=zI (K9.out.below hB.bel);have Tb:=zI (Kb.out.below hB.bel);have J:=zI hB;have Kt:=zI (J09 k i now nm ts fl es l w5 hB.box (HD.out.below Hg) O.out Y.out.cat Y.out.fit (HG.out.below Hg) Y.out.len Y.out.on);rw[<- KW.out] at Kt;have s0:=Ke.out.at_ 0 (v:= .int .u64 (k:Int)) rfl;have s1:=Ke.out.at_ 1 (v:= (N:Int)) rfl;have s2:=Ke.out.at_ 2 (v:= (L:Int)) rfl;clear Hg hB l0 l1 l2 l3 l4 l5 l6;go_wp2_with fail
 refine Kt.out.mono ?_;rintro e w6 ⟨A,c,B',c2,E,ec,ms,rfl,Kf,Ku,Kv,Kw,Hh⟩;obtain⟨w7,Hi⟩:=exE (w6.alloc (.cells (Ja0 k i now nm A ts.length c B' c2 E es.length ec) 207));obtain⟨gc,Kg⟩:=exE w6.heap.size;have Hj:=Bx.new w6 207 (Ja0 k i now nm A ts.length c B' c2 E es.length ec);have I:=(qaa w6.heap.size w6).alloc (qab _) (.cells (Ja0 k i now nm A ts.length c B' c2 E es.length ec) 207);rw[<- Hi,<- Kg] at Hj;rw[<- Hi] at I;have Z:=zI (Hh.trans (I.mono Hh.size));have Kh:=zI (Kd.out.trans (Z.out.mono Kd.out.size));have Tc:=zI Hj;have Ki:=zI (Ku.below I);have Td:=zI Hi;have Te:=zI Kg;have Tf:=zI I.size;have Hk:ms.length=es.length:=by rw[<- Kf,qa0]
 have Kx:∀j (V:j<ms.length) (h2:j<es.length),ms[j].e=es[j]:=fun j V h2=>by
  have e1:(ms.map Em.e)[j]'(by rw[qa0];exact V)=ms[j].e:=qbt _;rw[<- e1];congr 1
 have Tg:=zI (J4z k i now nm A ts.length c B' c2 E es.length ec ts fl ms rs w7 (J.out.box.below Z.out) (HD.out.below Kh.out) O.out Ki.out (by rw[Y.out.rl,Hk]) (fun j V h2=>by rw[Kx j V (by rw[<- Hk];exact V)];exact Y.out.seg j (by rw[<- Hk];exact V) h2));have Th:=zI Kf;have Tj:=zI Kv;have TH:=zI Kw;have Ky:=zI Hh.size;obtain⟨x0,x1,x2,x3,x4,x5,x6,x7,x8,x9,x10,x11⟩:=Jbk Hj;clear Kf Ku Kv Kw Hh Hi Kg Hj I Hk Kx s0 s1 s2;go_upto_region 9 with fail
 have Kz:w6.alloc (.cells #[.int .u64 (k:Int),.int .u64 (i:Int),(now:Int),nm,.slice A ts.length c,.slice B' ts.length c2,ByteArray.empty,.slice none 0 0,.slice none 0 0,(0:Int),(0:Int),.slice E es.length ec] 207)=w7:=Td.out.symm;rw[Kz,<- Te.out];clear Kz;go_wp2_with fail
 refine Tg.out.mono ?_;rintro e w8 ⟨P,pc,ps,rfl,Kj,Hl,z⟩;have T:ps.map Pm.e=es:=by rw[<- Th.out,<- Kj,qch];rfl
 have Kk:ps.length=es.length:=by rw[<- T,qa0]
 have Hm:=Y.out.ld ps T Hl;have Tk:=Kd.out.size;have KC:=Kh.out.size;have Tm:=z.bel.size;have KD:=Ky.out;have KE:=Tf.out
 have Kl:Jgt w8 (made w5 w8) P es.length ps:=by
  obtain⟨_,_,e8,Tn⟩:=Jap z.row;cases e8
  refine⟨Tn,Kk,fun p hp=> ?_,(Jb7 z.row).sub (fun b hb=>⟨by have:=hb.1;omega,hb.2⟩)⟩;have hm:p.em∈ms:=by rw[<- Kj];exact qcz hp
  have hr:=Ki.out.hes.row _ hm;have To:p.l∈rs:=by rw[<- Hl];exact qcz hp
  obtain⟨j,hj,ej⟩:=qcj To;have Km:=Y.out.seg j (by rw[<- Y.out.rl];exact hj) hj;rw[ej] at Km;obtain⟨_,_,e9,Tp⟩:=Jap (z.rc p hp);cases e9
  exact⟨hr.1.below z.bel,Jqr Tp Km.fine (by have:=Km.n.2;omega),hr.2.sub (fun b hb=>⟨by have:=hb.1;omega,by have:=hb.2;omega⟩),(Jb7 (z.rc p hp)).sub (fun b hb=>⟨by have:=hb.1;omega,hb.2⟩)⟩
 have H:=(J.out.box.below Z.out).below z.bel;have Tq:=zI (J1a k i now nm A ts.length c B' c2 E es.length ec ts fl ms P es.length pc ps t w8 H O.out (Ki.out.below z.bel) Kl (fun x hx=>hx.2) Y.out.flo (by have:=Y.out.fit.hen;omega) Hm.1 Hm.2.1 Y.out.few Y.out.need (Tj.out.sub (fun b hb=>⟨by have:=hb.1;omega,by have:=hb.2;omega⟩)));have Tr:=zI Kl;have KG:=zI (show w5.heap.size<=w8.heap.size from by omega);have Ts:=zI H;have Hn:=zI (Kh.out.trans (z.bel.mono KC));have KH:=zI (Tc.out.below z.bel);have Tt:=zI T;have Tu:=zI Kk;have K:=zI Hl;have Tw:=zI Hm.2.2;have KI:=zI (Z.out.trans (z.bel.mono Z.out.size));clear x0 x1 x2 x3 x4 x5 x6 x7 x8 x9 x10 x11 Kj T Kk Hl Hm Tk KC Tm KD KE Kl H z;obtain⟨x0,x1,x2,x3,x4,x5,x6,x7,x8,x9,x10,x11⟩:=Jbk KH.out;go_wp2_with fail
 refine Tq.out.mono ?_;rintro e w9 ⟨g',rfl,KJ,Ho⟩;have Tx:=zI KJ;have Hp:=zI Ho;have G:=zI (Ts.out.below Ho);have KK:=zI (KH.out.below Ho);clear x0 x1 x2 x3 x4 x5 x6 x7 x8 x9 x10 x11 KJ Ho;have c0:=KK.out.at_ 0 (v:= .int .u64 (k:Int)) rfl;have c1:=KK.out.at_ 1 (v:= .int .u64 (i:Int)) rfl;have y8:=G.out.at_ 8 (v:= .int .u64 0) rfl;have y9:=G.out.at_ 9 (v:= .int .u64 0) rfl;have f8:=G.out.free 8;have f9:=G.out.free 9;go_upto_region 17 with fail
 go_region
 obtain⟨w10,S⟩:=exE (((w9.setCell ⟨gx,8,none⟩ (.int .u64 (k:Int))).setCell ⟨gx,9,none⟩ (.int .u64 (i:Int))).drew);rw[<- S]
 have s:Chg (fun b=>b=gx) w9 w10:=by
  rw[S];exact(((Chg.set (F:=fun b=>b=gx) w9 ⟨gx,8,none⟩ (.int .u64 (k:Int)) rfl).trans (Chg.set (F:=fun b=>b=gx) _ ⟨gx,9,none⟩ (.int .u64 (i:Int)) rfl) (fun b e=> .inl e)).trans (Chg.of_below (qaa _ _).drew) (fun b e=> .inl e))
 have hJ:Bo w10 gx (Jdv N C B D R ⟨gd,0,none⟩ k i mp bk none 0):=by
  rw[S];exact((G.out.set 8 (.int .u64 (k:Int))).set 9 (.int .u64 (i:Int))).drew
 have KL:=J.out.box.lt;have y:=J.out.low;have Ty:=Kc.out.size;have KM:=KG.out;have Hu:=(Tr.out.below Hp.out).chg s (fun x hx e=>by have V:=hx.1;omega);have Tz:=zI (Jz4 (c:=pc) w10 hJ O.out Hu (fun hf=>by have V:=hf.1;omega) Tw.out (by have:=Y.out.fit.hen;omega));have TA:=zI (Tx.out.chg s (fun x hx e=>by have V:=hx.1;omega));have Ha:=zI (Hn.out.trans ((Hp.out.mono Hn.out.size).trans (s.below (fun x e=>by rw[e];omega) (qat Hn.out.size Hp.out.size))));have KN:=zI hJ;have KO:=zI s.size;have KP:=zI (show w.heap.size<=gx/\gx<w8.heap.size from by omega);have Hb:=(((Tb.out.below KI.out).below Hp.out).chg s (fun e=>by have V:=Kb.out.lt;omega));have Kn:=zI Hb;clear c0 c1 y8 y9 f8 f9 S s hJ KL y Ty KM Hu Hb;go_wp2_with fail
 refine Tz.out.mono ?_;rintro e w11 ⟨rfl,mp8,bk8,FB8,M,hI⟩;have y:=M.low;have Hv:=Ha.out.size;have Hq:=KP.out;have o:=zI (Ha.out.trans (M.chg.below (fun x e=>by rw[e];exact Hq.1) Hv));have Hr:=zI (show ∀x,F x ->x<w.heap.size from HD.out.ins);have KQ:=zI (TA.out.chg M.chg (fun x hx e=>by have V:=hx.1;omega))
 have KR:=zI (show SvS w11 FB8 F gx N C B D R gd k i mp8 bk8 q es.length none 0 (mapOf ps) (usOf ps) none (Jc4 ps) none f from
  ⟨M.box,M.map,M.book,HD.out.below o.out,fun x hx hd=>by have V:=y.2 x hx;have h2:=Hr.out x hd;omega,
   ⟨fun h=>by have V:=y.2 gx h;have h2:=KN.out.lt;omega,fun h=>by have h2:=Hr.out _ h;omega⟩,⟨M.ne,fun h=>by have V:=y.1;have h2:=Hr.out _ h;omega⟩⟩)
 have U:=Kn.out.chg M.chg (fun e=>by have V:=Kb.out.lt;have h2:=J.out.low.1;omega);have Hs:=(qaa w11.heap.size w11).drew;have l1:=U.at_ 1 (v:= (2:Int)) rfl;have l1':=(U.below Hs).at_ 1 (v:= (2:Int)) rfl;have z8:=M.box.at_ 8 (v:= .int .u64 (k:Int)) rfl;have z8':=(M.box.below Hs).at_ 8 (v:= .int .u64 (k:Int)) rfl;have TB:Hid (Cs 135 #[gd,(2:Int),(16:Int),.int .u64 (k:Int)] w11.drew fun e w'=>∃v,e= .returned (.tuple #[v,(0:Int)])/\w'.ownsRow w11.drew.heap.size 9 1 v lr.length (lr.map fun l=>Value.string (strOf l))/\Below w11.drew.heap.size w11.drew w'):=zI ((HD.out.below (o.out.trans (Hs.mono o.out.size))).wread 2 k lr (by have:=O.out.n;omega) KU Y.out.fit.hg.2 Y.out.log);have TC:=zI y;have Ht:=zI M.chg.size;clear y Hv Hq U Hs M hI;go_upto_region 19 with fail
 go_cut [15,7] (fun s15 s7 wx=>wx.ownsRow w11.heap.size 9 1 s15 lr.length (lr.map fun l=>Value.string (strOf l))/\s7= .int .i64 0/\Below w11.heap.size w11 wx)
 case first=>
  go_region_with (first
   | (go_at_call 135
      refine TB.out.mono ?_;rintro e w12 ⟨v12,rfl,m,g⟩;have Hc:=zI (Jgg m (show w11.heap.size<=w11.drew.heap.size from by simp));obtain⟨A12,c12,rfl,_⟩:=Jap m))
  all_goals (go_split_ands;go_wp2_with fail;go_meet;exact⟨Hc.out,rfl,(qaa w11.heap.size w11).drew.trans (by simpa using g)⟩)
 case rest=>
  obtain⟨m,rfl,g⟩:=hcut;have Hc:=zI m;obtain⟨A12,c12,rfl,_⟩:=Jap m;have KS:=zI (KR.out.below g);have Hw:=zI (KQ.out.below g);have KT:=zI (o.out.trans (g.mono o.out.size));clear m g l1 l1' z8 z8';have TD:=zI Hn.out.size
  have TE:Hid (OpS w wc FB8 (made w8 w9) F gx mp8 w11.heap.size):=zI (by
   have h8:=TD.out;have TI:=KO.out;have y:=TC.out;have Hq:=KP.out;have TJ:=Ha.out.size;have TF:=o.out.size;have TG:=Ht.out;refine⟨⟨Hq.1,by have:=y.1;omega,fun x hx=>by have:=y.2 x hx;omega⟩,fun x hx=> ?_,TF,fun x hx=>by have:=hx.2;omega⟩;have V:=hx.1;have h2:=hx.2;refine⟨by omega,⟨fun h=>by have:=y.2 x h;omega,fun h=>by have:=Hr.out x h;omega,by omega,Hw.out.ins x hx⟩,by have:=y.1;omega⟩)
  go_wp2_with fail
  refine qa7 (v:= .tuple #[gx,g',.slice A12 lr.length c12,(0:Int)]) (by simp[results,Tryz.results69,go_sem]) rfl ⟨gx,g',mp8,bk8,FB8,made w8 w9,ps,_,_,rfl,Tt.out,K.out,Hc.out,by rw[Tu.out];exact KS.out,Hw.out,TE.out,KT.out⟩
theorem J1b(t:Tv)(ps:List Pm):Jgv t ps=(ps.map Pm.w).foldl ldX t:=by
 unfold Jgv;rw[List.foldl_map];rfl
theorem Juy:∀es:List En,(es.flatMap enB).length=12*es.length+2*(es.flatMap En.bl).length
 | []=>rfl
 | e::es=>by
   rw[qas,qas,qad,qad,J7z,Juy es,qa3];omega
theorem J41(g i:Nat)(now:Int)(txt:List UInt8)(fl:List Int)(es:List En):(catB g i now txt fl es).length=46+txt.length+8*fl.length+12*es.length+2*(es.flatMap En.bl).length:=by
 unfold catB catH txB;simp only[qad,Ja2,Juy,qbn];rw[Je4 (fun v:Int=>le 8 (u64 v)) 8 (fun a=>Ja2 8 _) fl];omega
section
variable {t:Tv} {N C B D R gen:Nat} {v0 v:SvV}
theorem SvG.wide{xs:List Wv}(h:SvG D N v0 xs v):(v.es.flatMap En.bl).length=needW xs:=by
 rw[List.length_flatMap];unfold needW
 congr 1
 apply qc5
 · rw[qa0,qa0,h.es]
 · intro j z y
   rw[qbt,qbt];exact(h.at_ j (by simpa using z) (by simpa using y)).2.2.1
theorem SvG.fits(hL:Jd3 N C B D R)(hg:t.Good)(hn:t.need<=(R:Int))(hv:SvG D N v0 (Jam t t.tabs.length) v)(hid:v0.id<1000000)(hgen:gen<1000000):
  Jic (gen+1) v.id t.r.now t.r.nm t.r.ts t.r.all v.es/\(catB (gen+1) v.id t.r.now (Py.printL t.r.nm.toList t.r.ts) t.r.all v.es).length<=C*256:=by
 have q:=hg.wv;have h:needW (Jam t t.tabs.length)<=R:=by have:=hg.needW;omega
 obtain⟨p,o,g,s,_⟩:=Py.check_fine hg.ck;have d:=Py.print_len p s g;have b:=hL.bd;have a:=hL.n;have Z:=hL.c;have y:=J41 (gen+1) v.id t.r.now (Py.printL t.r.nm.toList t.r.ts) t.r.all v.es;rw[hv.wide,hv.es,Rch.all_len] at y;have m:=q.n
 have Y:(catB (gen+1) v.id t.r.now (Py.printL t.r.nm.toList t.r.ts) t.r.all v.es).length<=C*256:=by
  rw[y];omega
 have key:∀e∈v.es,∃x∈Jam t t.tabs.length,e.tier=x.1/\e.shard=x.2.1/\e.bl.length=sgN x.2.2.length:=by
  intro e w;obtain⟨j,l,rfl⟩:=qcj w;have u:j<(Jam t t.tabs.length).length:=by rw[<- hv.es];exact l
  obtain⟨a1,a2,a3,_⟩:=hv.at_ j l u;exact⟨_,qal u,a1,a2,a3⟩
 have k:=hv.id;refine⟨⟨⟨by omega,by omega⟩,by omega,hg.now,hg.nm,hg.ck,Rch.all_len _,?_,by rw[hv.es];omega,?_,?_,hv.nodup,by omega⟩,Y⟩
 · intro f s
   unfold Rch.all at s;obtain⟨i,W,rfl⟩:=qbm.1 s;have:=hg.flo i (qca.1 W);exact⟨this.1,this.2.1⟩
 · intro e w
   obtain⟨x,m,e1,e2,e3⟩:=key e w;have o:=q.fit x m;refine⟨hv.ids e w,by omega,by omega,by rw[e3];unfold sgN;omega,fun z hz=> ?_⟩;have:=hv.bl e w z hz;omega
 · have e:(v.es.map fun e=>plit (e.tier:Int) (e.shard:Int))=(Jam t t.tabs.length).map fun x=>plit (x.1:Int) (x.2.1:Int):=by
    apply qc5
    · rw[qa0,qa0,hv.es]
    · intro j o V
      rw[qbt,qbt];obtain⟨a1,a2,_,_⟩:=hv.at_ j (by simpa using o) (by simpa using V);rw[a1,a2]
   rw[e];exact q.place
theorem Jhg(t:Tv)(i:Nat):(t.withFs t.r.all).r.from_ i=t.r.from_ i:=by
 unfold Tv.withFs Rch.from_;by_cases z:i<t.r.ts.length
 · simp only[qam z]
   have e:t.r.all[i]? =some (t.r.from_ i):=by
    unfold Rch.all;rw[qb7,qda z];rfl
   rw[e];show max (Jc5 t.r.now (t.r.ts[i]).kp (t.r.nextEv i)) (t.r.from_ i)=_;unfold Rch.from_;simp only[qam z];cases t.r.fs[i]? with
   | none=>simp
   | some f=>simp only[];omega
 · simp only[qbg (Nat.le_of_not_lt z)]
theorem Jd0(t:Tv)(fl:List Int):∀k,Jbx (t.withFs fl) k=Jbx t k
 | 0=>rfl
 | k+1=>by unfold Jbx;rw[Jd0 t fl k];rfl
theorem Tv.Good.withFs(h:t.Good):(t.withFs t.r.all).Good:=
 ⟨h.ck,h.nm,h.len,h.now,fun i hi=>by rw[Jhg];exact h.flo i hi,h.ord,fun i hi r hr=>by rw[Jhg];exact h.fine i hi r hr,h.few⟩
theorem Jew(f:Int ->Option ByteArray)(a:Nat)(g:Nat ->ByteArray)(z:Int):∀k,(z<(a:Int)\/((a+k:Nat):Int)<=z) ->putN f a g k z=f z
 | 0,_=>rfl
 | k+1,h=>by
   show setS (putN f a g k) _ _ z=_;unfold setS;rw[qav (by omega)];exact Jew f a g z k (by omega)
theorem Juz(f:Int ->Option ByteArray)(a:Nat)(g:Nat ->ByteArray):∀k j,j<k ->putN f a g k ((a+j:Nat):Int)=some (g j)
 | 0,_,h=>by omega
 | k+1,j,h=>by
   show setS (putN f a g k) _ _ _=_;unfold setS;by_cases e:j=k
   · subst e;rw[qa2 rfl]
   · rw[qav (by omega)];exact Juz f a g k j (by omega)
theorem J9q{l:List UInt8}{C:Nat}(h:l.length<=C*256):nbC l<=C:=by unfold nbC;omega
theorem J9r(hL:Jd3 N C B D R)(hg:t.Good)(hn:t.need<=(R:Int))(hv:SvG D N v0 (Jam t t.tabs.length) v)(hid:v0.id<1000000)(hgen:gen<1000000)(hoth:∃o,Jlo (Jbd v0.f ((gen % 2:Nat):Int)) o/\∀x,o=some x ->x.1<=gen)(hlog:Jdz v0.f 2 (gen+1) []):
  Jmy (savF B N t (gen+1) v) N C B D R (gen+1) v.id t.r.now t.r.nm t.r.ts t.r.all v.es ((Jam t t.tabs.length).map fun x=>x.2.2) (savB t (gen+1) v) (t.withFs t.r.all) []:=by
 obtain⟨m,Z⟩:=hv.fits hL hg hn hid hgen;have Y:=hg.wv;have Ha:=hL.bd;have V:=hL.n;have Hb:=J9q Z;have Hc:18<=Jck B (gen+1)/\Jck B (gen+1)+C<=D:=by unfold Jck;split<;>omega
 have U:=m.hlen;have hb:savB t (gen+1) v=catB (gen+1) v.id t.r.now (Py.printL t.r.nm.toList t.r.ts) t.r.all v.es:=rfl
 -- far from the catalogue and from the superblock
 have T:∀z:Int,(D:Int)<=z ->savF B N t (gen+1) v z=v.f z:=by
  intro z E;show setS (putN _ _ _ _) _ _ z=_;unfold setS;rw[qav (by omega)];exact Jew _ _ _ _ _ (.inr (by rw[hb];omega))
 have low:∀z:Int,0<=z ->z<18 ->z≠(((gen+1) % 2:Nat):Int) ->Jbd (savF B N t (gen+1) v) z=Jbd v0.f z:=by
  intro z H E S;show(setS (putN _ _ _ _) _ _ z).getD _=_;unfold setS;rw[qav S,Jew _ _ _ _ _ (.inl (by omega)),hv.low z (by omega)];rfl
 refine⟨rfl,m,Z,fun j W=> ?_,?_,?_,?_,⟨by rw[Rch.all_len];exact qab _,fun i h h'=> ?_⟩,fun ps he hl=> ?_,hg.withFs.rare,?_,?_⟩
 · show(setS (putN _ _ _ _) _ _ _).getD _=_
   unfold setS;rw[qav (by omega),Juz _ _ _ _ _ W];rfl
 · have g:Jlo (Jbd (savF B N t (gen+1) v) (((gen+1) % 2:Nat):Int)) (some (gen+1,N,(savB t (gen+1) v).length)):=by
    refine⟨?_,by omega,by omega,V.1,V.2,U⟩;show(setS (putN _ _ _ _) _ _ _).getD _=_;unfold setS;rw[qa2 rfl];rfl
   obtain⟨o,ho,P⟩:=hoth;have d:Jlo (Jbd (savF B N t (gen+1) v) ((gen % 2:Nat):Int)) o:=by rw[low _ (by omega) (by omega) (by omega)];exact ho
   by_cases y:gen % 2=0
   · rw[show(gen+1) % 2=1 from by omega] at g
     rw[y] at d;refine⟨o,_,d,g,?_⟩;unfold bsts bst;cases o with
     | none=>simp
     | some x=>
       have:=P x rfl;simp only[];by_cases H:(0:Nat)<x.1
       · rw[qa2 H,qa2 (by omega)]
       · rw[qav H,qa2 (by omega)]
   · rw[show(gen+1) % 2=0 from by omega] at g
     rw[show gen % 2=1 from by omega] at d;refine⟨_,o,g,d,?_⟩;have e1:bst (0,0,0) (some (gen+1,N,(savB t (gen+1) v).length))=(gen+1,N,(savB t (gen+1) v).length):=(by simp[bst]);show bst (bst (0,0,0) (some (gen+1,N,(savB t (gen+1) v).length))) o=_;rw[e1];cases o with
     | none=>rfl
     | some x=>
       have:=P x rfl;have k: ¬ gen+1<x.1:=(by omega);simp[bst,k]
 · rw[qa0,hv.es]
 · intro j O k
   have c:j<(Jam t t.tabs.length).length:=by simpa using k
   obtain⟨a1,a2,a3,a4⟩:=hv.at_ j O c;have u:=Y.fit _ (qal c);rw[qbt];have M:=hv.bl _ (qal O);refine⟨fun q hq=> ?_,a3,⟨u.2.2.1,u.2.2.2.1⟩,u.2.2.2.2.1,u.2.2.2.2.2,M⟩;have E:=(M _ (qal hq)).1;have G:=a4 q hq;show some ((savF B N t (gen+1) v _).getD _)=_;rw[T _ E];have A:q<(sgL v.es[j].id v.es[j].tier v.es[j].shard (Jam t t.tabs.length)[j].2.2).length:=by rw[Jfb,<- a3];exact hq
   rw[G,qam A];rfl
 · have K:i<t.r.ts.length:=h'
   have k:=hg.flo i K
   have e:t.r.all[i]'h=t.r.from_ i:=by
    have e0:t.r.all[i]? =some (t.r.from_ i):=by
     unfold Rch.all;rw[qb7,qda K];rfl
    rw[qam h] at e0;exact qc3 e0
   rw[e,<- Rch.ev_at K];exact⟨k.1,k.2.2⟩
 · have hJ:ps.length=(Jam t t.tabs.length).length:=by
    have:=congrArg List.length hl
    simpa using this
   have Hd:ps.length=v.es.length:=by rw[<- he,qa0]
   have b:ps.map Pm.w=Jam t t.tabs.length:=by
    apply qc5
    · rw[qa0,hJ]
    · intro j O k
      have W:j<ps.length:=(by simpa using O);have c:j<v.es.length:=(by omega);obtain⟨a1,a2,_,_⟩:=hv.at_ j c k
      have e1:ps[j].e=v.es[j]:=by
       have:(ps.map Pm.e)[j]'(by rw[qa0];exact W)=ps[j].e:=qbt _;rw[<- this];congr 1
      have e2:ps[j].l=((Jam t t.tabs.length)[j]).2.2:=by
       have h3:(ps.map Pm.l)[j]'(by rw[qa0];exact W)=ps[j].l:=qbt _;have G:((Jam t t.tabs.length).map fun x=>x.2.2)[j]'(by rw[qa0];exact k)=((Jam t t.tabs.length)[j]).2.2:=qbt _;rw[<- h3,<- G];congr 1
      rw[qbt];unfold Pm.w;rw[e1,e2,a1,a2]
   refine⟨fun j W=> ?_,?_,?_⟩
   · have L:ps[j].w∈Jam t t.tabs.length:=by rw[<- b];exact qcz (qal W)
     have u:=Y.fit _ L;obtain⟨i,s,F,hs,exx,S⟩:=Jgr L;have e1:ps[j].e.tier=i:=congrArg (fun x:Wv=>x.1) exx;have e2:ps[j].e.shard=s:=congrArg (fun x:Wv=>x.2.1) exx;have e3:ps[j].l=Ja4 (t.r.sh i).toNat (t.tab i) s:=congrArg (fun x:Wv=>x.2.2) exx;have He:=hg.sh F;have Hf:=hg.ev F;obtain⟨K,_,_,hK⟩:=hg.ti F;have J:(Jgv ⟨⟨t.r.now,t.r.nm,t.r.ts,t.r.all⟩,List.replicate t.r.ts.length []⟩ (ps.take j)).r=(t.withFs t.r.all).r:=J8e _ _;refine⟨by rw[e1];exact K,⟨(t.r.sh i).toNat,fun K'=> ?_,by omega,by omega,by omega,fun r J=> ?_⟩,u.2.2.2.1,fun r hr'=> ?_,?_,?_⟩
     · have:t.r.ts[ps[j].e.tier]'K'=t.r.ts[i]'K:=by congr 1
       rw[this,<- hK];omega
     · rw[e3] at J
       rw[e2];exact(Jie J).2
     · rw[J,e1,Jhg]
       rw[e3] at hr';have:=hg.fine i F r (Jie hr').1;exact⟨this.2.2,this.2.1⟩
     · rw[J,e1]
       show -9223372036854775808<=t.r.ev i/\t.r.ev i<=_;omega
     · rw [J1b,e1]
       have hm:=Jux i ((ps.take j).map Pm.w) ⟨⟨t.r.now,t.r.nm,t.r.ts,t.r.all⟩,List.replicate t.r.ts.length []⟩
       have H:(Tv.tab ⟨⟨t.r.now,t.r.nm,t.r.ts,t.r.all⟩,List.replicate t.r.ts.length []⟩ i).length=0:=by
        unfold Tv.tab;simp only[qdc,List.getElem?_replicate];split<;>rfl
       have I:∀xs:List Wv,(∀x∈xs,x.2.2.length<=10000) ->(xs.map fun x=>x.2.2.length).sum<=10000*xs.length:=by
        intro xs
        induction xs with
        | nil=>intro _;simp
        | cons a r ih=>
          intro h;have O:=h a (by simp);have k:=ih (fun x u=>h x (by simp[u]));simp only[qby,qc7,qa3];omega
       have h3:=I ((ps.take j).map Pm.w) (fun x u=>by
        rw[List.map_take,b] at u;exact(Y.fit x (qbr u)).2.2.2.1)
       have G:((ps.take j).map Pm.w).length<=40:=by
        rw[qa0,qap];have:=Y.n;omega
       have h5:ps[j].l.length<=10000:=u.2.2.2.1;omega
   · rw[J1b,b]
     exact(Jwq hg t.r.all).symm
   · have mem:∀p∈ps,p.e∈v.es:=fun p y=>by rw[<- he];exact qcz y
     have fit:∀p∈ps,p.w∈Jam t t.tabs.length:=fun p y=>by rw[<- b];exact qcz y
     refine⟨fun p y=>(Y.fit _ (fit p y)).1,fun p y=>by have:=(Y.fit _ (fit p y)).2.1;exact Nat.le_of_lt_succ this,fun p y e=> ?_,fun p y=>hv.bl _ (mem p y),?_⟩
     · have:=(m.hok _ (mem p y)).len.1
       rw[e] at this;simp at this
     · have:(ps.flatMap fun p=>p.e.bl)=(ps.map Pm.e).flatMap En.bl:=by rw[List.flatMap_map]
       rw[this,he];exact hv.nodup
 · show Jbx _ _<=_
   rw[show(t.withFs t.r.all).tabs.length=t.tabs.length from rfl,Jd0];exact hn
 · refine hlog.far fun q hq=> ?_
   show setS (putN _ _ _ _) _ _ _=_;unfold setS;rw[qav (by omega),Jew _ _ _ _ _ (.inl (by omega)),hv.low _ (by omega)]
end
theorem Jmy.logged{f f':Int ->Option ByteArray}{N C B D R k i:Nat}{now:Int}{nm:ByteArray}{ts:List Ti}{fl:List Int}{es:List En}{rs:List (List Rc)}{l:List UInt8}{t:Tv}{lr lr':List (List UInt8)}(h:Jmy f N C B D R k i now nm ts fl es rs l t lr)(hL:Jd3 N C B D R)(hf:∀z:Int,z<2\/18<=z ->f' z=f z)(hl:Jdz f' 2 k lr'):Jmy f' N C B D R k i now nm ts fl es rs l t lr':=by
 have x:∀z:Int,z<2\/18<=z ->Jbd f' z=Jbd f z:=fun z hz=>by unfold Jbd;rw[hf z hz]
 have v:=hL.bd;refine⟨h.cat,h.fit,h.len,fun j hj=> ?_,?_,h.rl,fun j w h2=> ?_,h.flo,h.ld,h.few,h.need,hl⟩
 · rw[x _ (.inr (by unfold Jck;split<;>omega))];exact h.on j hj
 · obtain⟨o0,o1,u,w,e⟩:=h.sup
   exact⟨o0,o1,by rw[x 0 (by omega)];exact u,by rw[x 1 (by omega)];exact w,e⟩
 · have y:=h.seg j w h2
   refine⟨fun q hq=> ?_,y.len,y.n,y.fine,y.lt,y.bl⟩;have:=y.bl _ (qal hq);rw[x _ (.inr (by omega))];exact y.on q hq
abbrev Jsz (N C B D R gd gen id mp bk gl gs:Nat):Array Value:=
 #[(N:Int),(2:Int),(18:Int),(B:Int),(C:Int),(D:Int),(R:Int),gd,.int .u64 (gen:Int),.int .u64 (id:Int),.map (some mp),bk,gl,(0:Int),gs,true]
structure EngS (w:World) (FB FD FT:Nat ->Prop) (ge gs gl N C B D R gd gen id mp bk q used:Nat) (ps:List Pm) (f:Int ->Option ByteArray) (t:Tv) (rs:List (List UInt8)):Prop where
 sv:SvS w FB FD ge N C B D R gd gen id mp bk q ps.length (some ⟨gl,0,none⟩) 0 (mapOf ps) (usOf ps) none (Jc4 ps) none f
 bx:Bx w ge 71 (Jsz N C B D R gd gen id mp bk gl gs)
 st:StAt w FT gs R t
 lg:Bx w gl 286 (lgCs gd 2 16 gen used rs.length)
 ft:∀x,FT x ->Apart FB FD ge w x/\x≠mp/\x≠gl
 ngl: ¬ FB gl/\ ¬ FD gl/\gl≠ge
def engF (FB FD FT:Nat ->Prop) (ge gl:Nat) (x:Nat):Prop:=x=ge\/x=gl\/FB x\/FD x\/FT x
section
variable {w w':World} {FB FD FT:Nat ->Prop} {ge gs gl N C B D R gd gen id mp bk q used:Nat} {ps:List Pm} {f:Int ->Option ByteArray} {t:Tv} {rs:List (List UInt8)}
theorem EngS.below(h:EngS w FB FD FT ge gs gl N C B D R gd gen id mp bk q used ps f t rs)(hb:Below w.heap.size w w'):EngS w' FB FD FT ge gs gl N C B D R gd gen id mp bk q used ps f t rs:=
 ⟨h.sv.below hb,h.bx.below hb,h.st.below hb,h.lg.below hb,fun x hx=>by have:=h.ft x hx;exact⟨⟨this.1.1,this.1.2.1,this.1.2.2.1,qar this.1.2.2.2 hb.size⟩,this.2⟩,h.ngl⟩
theorem EngS.ge_ne(h:EngS w FB FD FT ge gs gl N C B D R gd gen id mp bk q used ps f t rs):gl≠mp:=fun e=>h.sv.map.nocells _ _ _ (by rw[<- e];exact h.lg.blk)
theorem EngS.stated(h:EngS w FB FD FT ge gs gl N C B D R gd gen id mp bk q used ps f t rs){t':Tv}(hs:StAt w' (grow FT w w') gs R t')(hc:Chg FT w w'):EngS w' FB FD (grow FT w w') ge gs gl N C B D R gd gen id mp bk q used ps f t' rs:=by
 refine⟨h.sv.far hc (fun x z=>by have:=h.ft x z;exact⟨this.1.1,this.1.2.1,this.1.2.2.1,this.2.1⟩),h.bx.chg hc (fun hf=>(h.ft _ hf).1.2.2.1 rfl),hs,h.lg.chg hc (fun hf=>(h.ft _ hf).2.2 rfl),fun x z=> ?_,h.ngl⟩;rcases z with z | z
 · have:=h.ft x z
   exact⟨⟨this.1.1,this.1.2.1,this.1.2.2.1,qar this.1.2.2.2 hc.size⟩,this.2⟩
 · have y:=z.1
   have v:=h.sv.box.lt;have u:=h.sv.map.lt;have s:=h.lg.lt;exact⟨⟨fun hf=>by have:=h.sv.book.ins x hf;omega,fun hf=>by have:=h.sv.disk.ins x hf;omega,by omega,z.2⟩,by omega,by omega⟩
theorem EngS.logged(h:EngS w FB FD FT ge gs gl N C B D R gd gen id mp bk q used ps f t rs){q' used':Nat}{f':Int ->Option ByteArray}{rs':List (List UInt8)}(hl:LgW w FD w' gl gd N q' f' 2 16 gen used' rs'.length):
  EngS w' FB (grow FD w w') FT ge gs gl N C B D R gd gen id mp bk q' used' ps f' t rs':=by
 have z:=hl.chg;have v:∀x,FB x -> ¬ (FD x\/x=gl):=fun x hx e=>e.elim (fun y=>h.sv.dj x hx y) (fun y=>h.ngl.1 (by rw[<- y];exact hx))
 have far:∀x,x<w.heap.size -> ¬ FD x -> ¬ grow FD w w' x:=fun x hx hn hf=>by
  rcases hf with y | y
  · exact hn y
  · have:=y.1;omega
 refine⟨⟨h.sv.box.chg z (fun e=>e.elim h.sv.ngx.2 (fun y=>h.ngl.2.2 y.symm)),h.sv.map.chg z (fun e=>e.elim h.sv.nmp.2 (fun y=>h.ge_ne y.symm)),h.sv.book.chg z v,hl.dk,fun x hx hd=>far x (h.sv.book.ins x hx) (h.sv.dj x hx) hd,⟨h.sv.ngx.1,far _ h.sv.box.lt h.sv.ngx.2⟩,⟨h.sv.nmp.1,far _ h.sv.map.lt h.sv.nmp.2⟩⟩,
  h.bx.chg z (fun e=>e.elim h.sv.ngx.2 (fun y=>h.ngl.2.2 y.symm)),h.st.chg z (fun x hx e=>e.elim (h.ft x hx).1.2.1 (h.ft x hx).2.2),hl.bx,fun x hx=> ?_,⟨h.ngl.1,far _ h.lg.lt h.ngl.2.1,h.ngl.2.2⟩⟩
 have:=h.ft x hx;exact⟨⟨this.1.1,far _ this.1.2.2.2 this.1.2.1,this.1.2.2.1,qar this.1.2.2.2 z.size⟩,this.2⟩
end
structure J1c (f:Int ->Option ByteArray) (N C B D R gen:Nat) (t0:Tv) (rs:List (List UInt8)):Prop where
 ex:∃i now nm ts fl es rsg l,Jmy f N C B D R gen i now nm ts fl es rsg l t0 rs/\((es.flatMap En.bl).length:Int)=t0.need
structure Jav (w:World) (F:Nat ->Prop) (ge gd N C B D R gen q:Nat) (ps:List Pm) (f:Int ->Option ByteArray) (t:Tv) (rs:List (List UInt8)) (t0:Tv):Prop where
 ex:∃FB FD FT gs gl mp bk id,EngS w FB FD FT ge gs gl N C B D R gd gen id mp bk q (layAll gen 0 rs).length ps f t rs/\(∀x,engF FB FD FT ge gl x ->F x)/\id<=100*gen/\F mp
 log:Jdz f 2 gen rs
 svd:J1c f N C B D R gen t0 rs
 good:t.Good
 need:t.need<=(R:Int)
 lay:Jd3 N C B D R
 gen1:1<=gen/\gen<5000
 low:∀x,F x ->gB<=x
 ins:Ins F w
section
variable {w w':World} {F:Nat ->Prop} {ge gd N C B D R gen q:Nat} {ps:List Pm} {f:Int ->Option ByteArray} {t t0:Tv} {rs:List (List UInt8)}
theorem Jav.below(h:Jav w F ge gd N C B D R gen q ps f t rs t0)(hb:Below w.heap.size w w'):Jav w' F ge gd N C B D R gen q ps f t rs t0:=by
 obtain⟨FB,FD,FT,gs,gl,mp,bk,id,z,y,x,v⟩:=h.ex;exact⟨⟨FB,FD,FT,gs,gl,mp,bk,id,z.below hb,y,x,v⟩,h.log,h.svd,h.good,h.need,h.lay,h.gen1,h.low,h.ins.up hb.size⟩
theorem EngS.up{FB FD FT:Nat ->Prop}{gs gl id mp bk used q':Nat}(h:EngS w FB FD FT ge gs gl N C B D R gd gen id mp bk q used ps f t rs)(hq:q<=q'):EngS w FB FD FT ge gs gl N C B D R gd gen id mp bk q' used ps f t rs:=
 ⟨⟨h.sv.box,h.sv.map,h.sv.book,h.sv.disk.up hq,h.sv.dj,h.sv.ngx,h.sv.nmp⟩,h.bx,h.st,h.lg,h.ft,h.ngl⟩
theorem Jav.up{q':Nat}(h:Jav w F ge gd N C B D R gen q ps f t rs t0)(hq:q<=q'):Jav w F ge gd N C B D R gen q' ps f t rs t0:=by
 obtain⟨FB,FD,FT,gs,gl,mp,bk,id,z,y⟩:=h.ex;exact⟨⟨FB,FD,FT,gs,gl,mp,bk,id,z.up hq,y⟩,h.log,h.svd,h.good,h.need,h.lay,h.gen1,h.low,h.ins⟩
theorem Jav.size(h:Jav w F ge gd N C B D R gen q ps f t rs t0):gB<=w.heap.size:=by
 obtain⟨FB,FD,FT,gs,gl,mp,bk,id,z,y,_⟩:=h.ex;have x:=h.low ge (y ge (.inl rfl));have v:=z.bx.lt;omega
theorem Jav.growlow(h:Jav w F ge gd N C B D R gen q ps f t rs t0):∀x,grow F w w' x ->gB<=x:=by
 have y:=h.size;intro x z;rcases z with z | z
 · exact h.low x z
 · have:=z.1;omega
theorem Jav.mono{G:Nat ->Prop}(h:Jav w F ge gd N C B D R gen q ps f t rs t0)(hs:∀x,F x ->G x)(hl:∀x,G x ->gB<=x)(hi:Ins G w):Jav w G ge gd N C B D R gen q ps f t rs t0:=by
 obtain⟨FB,FD,FT,gs,gl,mp,bk,id,z,y,v,u⟩:=h.ex;exact⟨⟨FB,FD,FT,gs,gl,mp,bk,id,z,fun x hx=>hs x (y x hx),v,hs _ u⟩,h.log,h.svd,h.good,h.need,h.lay,h.gen1,hl,hi⟩
theorem Jav.far{G:Nat ->Prop}(h:Jav w F ge gd N C B D R gen q ps f t rs t0)(hc:Chg G w w')(hd:∀x,G x -> ¬ F x):Jav w' F ge gd N C B D R gen q ps f t rs t0:=by
 obtain⟨FB,FD,FT,gs,gl,mp,bk,id,z,v,s,u⟩:=h.ex;have n:=fun x hx=>fun hg=>hd x hg (v x hx);refine⟨⟨FB,FD,FT,gs,gl,mp,bk,id,⟨z.sv.far hc (fun x hx=>⟨fun y=>n x (.inr (.inr (.inl y))) hx,fun y=>n x (.inr (.inr (.inr (.inl y)))) hx,fun y=>n x (.inl y) hx,fun y=>hd x hx (by rw[y];exact u)⟩),z.bx.chg hc (n ge (.inl rfl)),z.st.chg hc (fun x hx=>n x (.inr (.inr (.inr (.inr hx))))),z.lg.chg hc (n gl (.inr (.inl rfl))),fun x hx=> ?_,z.ngl⟩,v,s,u⟩,h.log,h.svd,h.good,h.need,h.lay,h.gen1,h.low,h.ins.up hc.size⟩;have:=z.ft x hx;exact⟨⟨this.1.1,this.1.2.1,this.1.2.2.1,qar this.1.2.2.2 hc.size⟩,this.2⟩
theorem Jav.disk(h:Jav w F ge gd N C B D R gen q ps f t rs t0):∃FD,DsAt w FD gd N q f/\∀x,FD x ->F x:=by
 obtain⟨FB,FD,FT,gs,gl,mp,bk,id,z,y,_⟩:=h.ex;exact⟨FD,z.sv.disk,fun x hx=>y x (.inr (.inr (.inr (.inl hx))))⟩
end
end Go.Proofs.YtglmhddbhhcjdaaGreatDoor
