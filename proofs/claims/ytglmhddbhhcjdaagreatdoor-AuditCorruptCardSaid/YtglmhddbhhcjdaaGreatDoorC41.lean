/- Laws that the walk of the last text wants. -/
import Derived.Test.YtglmhddbhhcjdaaGreatDoorC40
import Derived.Test.YtglmhddbhhcjdaaGreatDoorC36
set_option maxRecDepth 100000
set_option linter.unusedSimpArgs false
set_option maxHeartbeats 4000000
namespace Go.Proofs.YtglmhddbhhcjdaaGreatDoor
open Go.RowKit
theorem DsAt.supread{w:World}{F:Nat ->Prop}{g N q:Nat}{f:Int ->Option ByteArray}(h:DsAt w F g N q f)(hN:2<=N)(o0 o1:Option (Nat×Nat×Nat))(h0:Jl4 (Jav f 0) o0)(h1:Jl4 (Jav f 1) o1):
  Cs 130 #[g] w (RB w (supR N (bsts o0 o1 2))):=by
 obtain⟨_,_,_,h,_⟩:=h;exact Jwy h hN o0 o1 h0 h1
theorem DsAt.wread{w:World}{F:Nat ->Prop}{g N q:Nat}{f:Int ->Option ByteArray}(h:DsAt w F g N q f)(a gen:Nat)(rs:List (List UInt8))(ha:a+16<=N)(hgen:1<=gen)(hg2:gen<18446744073709551616)(hl:Jda f a gen rs):
  Cs 135 #[g,(a:Int),(16:Int),.int .u64 (gen:Int)] w fun e w'=>∃v,e= .returned (.tuple #[v,(0:Int)])/\w'.ownsRow w.heap.size 9 1 v rs.length (rs.map fun l=>Value.string (strOf l))/\Below w.heap.size w w':=by
 obtain⟨_,_,_,h,_⟩:=h;have:=J5k w h a 16 gen (by omega) ha (qab _) hgen hg2;rw[hl.read hg2] at this;exact this
structure Jg6 (f:Int ->Option ByteArray) (N C B D R k i:Nat) (now:Int) (nm:ByteArray) (ts:List Ti) (fl:List Int) (es:List En) (rs:List (List Rc)) (l:List UInt8) (t:Tv) (lr:List (List UInt8)):Prop where
 cat:l=catB k i now (Py.printL nm.toList ts) fl es
 fit:Jik k i now nm ts fl es
 len:l.length<=C*256
 on:∀j,j<nbC l ->Jav f ((Jb5 B k+j:Nat):Int)=chC l j
 sup:∃o0 o1,Jl4 (Jav f 0) o0/\Jl4 (Jav f 1) o1/\bsts o0 o1 2=(k,N,l.length)
 rl:rs.length=es.length
 seg:∀j (h1:j<es.length) (h2:j<rs.length),SegR f D N es[j] rs[j]
 flo:Jn1 ts fl
 ld:∀ps:List Pm,ps.map Pm.e=es ->ps.map Pm.l=rs ->(∀j (hj:j<ps.length),LdOk (Jg0 ⟨⟨now,nm,ts,fl⟩,List.replicate ts.length []⟩ (ps.take j)) ts ps[j])/\t=Jg0 ⟨⟨now,nm,ts,fl⟩,List.replicate ts.length []⟩ ps/\Jij D N ps
 few:t.Few
 need:t.need<=(R:Int)
 log:Jda f 2 k lr
structure OpS (w w':World) (FB FS F:Nat ->Prop) (gx mp B0:Nat):Prop where
 low:w.heap.size<=gx/\w.heap.size<=mp/\∀x,FB x ->w.heap.size<=x
 st:∀x,FS x ->w.heap.size<=x/\Apart FB F gx w' x/\x≠mp
 row:w.heap.size<=B0/\∀x,FS x ->x<B0
theorem Jvj{F:Nat ->Prop}{gd N C B D R q:Nat}{f f0:Int ->Option ByteArray}(e0:Nat)(k i:Nat)(now:Int)(nm:ByteArray)(ts:List Ti)(fl:List Int)(es:List En)(rs:List (List Rc))(l:List UInt8)(t:Tv)(lr:List (List UInt8))(w:World)(hD:DsAt w F gd N q f)(hL:Jd3 N C B D R)(hG:Glo w)(hO:Jg6 f0 N C B D R k i now nm ts fl es rs l t lr)(hlow:∀z:Int,z<(D:Int) ->f z=f0 z)(he0:e0<=es.length)(hsf:∀j (h1:j<es.length) (h2:j<rs.length),j<e0 ->SegR f D N es[j] rs[j])(hsx:∀h:e0<es.length,SegX f es[e0]):
  Cs 69 #[gd] w fun e w'=>(e0<es.length/\e= .returned (.tuple #[.pointer none,.pointer none,(),(28:Int)])/\Below w.heap.size w w')\/(e0=es.length/\∃gx gs mp bk FB FS ps v B0,e= .returned (.tuple #[(gx:Nat),(gs:Nat),v,(0:Int)])/\ps.map Pm.e=es/\ps.map Pm.l=rs/\w'.ownsRow B0 9 1 v lr.length (lr.map fun l=>Value.string (strOf l))/\
   SvS w' FB F gx N C B D R gd k i mp bk q ps.length none 0 (mapOf ps) (usOf ps) none (Jcf ps) none f/\StAt w' FS gs R t/\OpS w w' FB FS F gx mp B0/\Below w.heap.size w w'):=by
 obtain⟨o0,o1,Kr,Ks,Kt⟩:=hO.sup;have Hg:∀z:Int,z<(D:Int) ->Jav f z=Jav f0 z:=fun z hz=>by unfold Jav;rw[hlow z hz]
 have KZ:=hL.bd;have Y:=hD.supread (by have:=hL.n;omega) o0 o1 (by rw[Hg 0 (by omega)];exact Kr) (by rw[Hg 1 (by omega)];exact Ks);rw[Kt] at Y;have K7:1<=k:=hO.fit.hg.1;obtain⟨L,H9⟩:=exE l.length;rw[<- H9] at Y;unfold supR supV at Y;rw[qay (by simp;omega)] at Y;dsimp only at Y;have Y:=zI Y;have I:=fun W=>Joq N W hL.n.1 hL.n.2;rw[<- hL.d,<- hL.b,<- hL.c,<- hL.r] at I;have K8:=zI I;have HD:=zI hD;have M:=zI hL;have HG:=zI hG;have T:=zI hO
 have K9:=zI (show ∀j,j<nbC l ->Jav f ((Jb5 B k+j:Nat):Int)=chC l j from fun j hj=>by
  have h1:Jb5 B k<=B:=by unfold Jb5;split<;>omega
  have h2:=hO.len;have h3:nbC l<=C:=by unfold nbC;omega
  rw[Hg _ (by omega)];exact hO.on j hj)
 have Ta:=zI (hO.log.far (f':=f) fun q hq=>hlow _ (by omega));have Tb:=zI hsf;have Tc:=zI hsx;have Td:=zI he0;have Te:=zI H9;clear hD hL hG hO H9 I Kr Ks Kt hlow hsf hsx he0 Hg KZ;go_enter Tryz.func69,Tryz.ntmps69;go_wp2_with fail
 refine Y.out.mono ?_;rintro e w1 ⟨rfl,Ka⟩;obtain⟨g6,Kb⟩:=exE w1.heap.size;obtain⟨w2,Hh⟩:=exE (w1.alloc (.cells #[.int .u64 (k:Int),(N:Int),(L:Int)] 202));have Hi:=Bx.new w1 202 #[.int .u64 (k:Int),(N:Int),(L:Int)];rw[<- Hh,<- Kb] at Hi;have Ku:Below w.heap.size w w2:=by rw[Hh];exact Ka.alloc Ka.size _
 have Tf:=zI Hh;have Tg:=zI Kb;have Th:=zI Hi;have Kv:=zI Ku;have s1:=Hi.at_ 1 (v:= (N:Int)) rfl;clear Ka Kb Hh Hi Ku;go_upto_region 6 with fail
 rw[<- Tf.out,<- Tg.out];go_wp2_with fail
 refine(K8.out w2).mono ?_;rintro e w3 ⟨rfl,Kc⟩;obtain⟨g8,Kd⟩:=exE w3.heap.size;obtain⟨w4,Hj⟩:=exE (w3.alloc (.cells #[(N:Int),(2:Int),(18:Int),(B:Int),(C:Int),(D:Int),(R:Int)] 64));have s:=Bx.new w3 64 #[(N:Int),(2:Int),(18:Int),(B:Int),(C:Int),(D:Int),(R:Int)];rw[<- Hj,<- Kd] at s;have Ke:Below w2.heap.size w2 w4:=by rw[Hj];exact Kc.alloc Kc.size _
 have Tj:=zI Hj;have Tk:=zI Kd;have Kf:=zI s;have Kg:=zI (Kv.out.trans (Ke.mono Kv.out.size));have Tm:=zI (Th.out.below Ke);have l0:=s.at_ 0 (v:= (N:Int)) rfl;have l1:=s.at_ 1 (v:= (2:Int)) rfl;have l2:=s.at_ 2 (v:= (18:Int)) rfl;have l3:=s.at_ 3 (v:= (B:Int)) rfl;have l4:=s.at_ 4 (v:= (C:Int)) rfl;have l5:=s.at_ 5 (v:= (D:Int)) rfl;have l6:=s.at_ 6 (v:= (R:Int)) rfl;have Tn:=zI (Ju3 N C B D R gd w4 M.out);clear Kc Kd Hj s Ke s1;go_upto_region 7 with fail
 rw[<- Tj.out,<- Tk.out];go_wp2_with fail
 refine Tn.out.mono ?_;rintro e w5 ⟨gx,mp,bk,FB,rfl,hB⟩;have Hk:=Kg.out.trans (hB.bel.mono Kg.out.size);have Kh:=zI Hk;have Ki:=zI (Tm.out.below hB.bel);have To:=zI (Kf.out.below hB.bel);have H:=zI hB;have Kw:=zI (J11 k i now nm ts fl es l w5 hB.box (HD.out.below Hk) M.out T.out.cat T.out.fit (HG.out.below Hk) T.out.len K9.out);rw[<- Te.out] at Kw;have s0:=Ki.out.at_ 0 (v:= .int .u64 (k:Int)) rfl;have s1:=Ki.out.at_ 1 (v:= (N:Int)) rfl;have s2:=Ki.out.at_ 2 (v:= (L:Int)) rfl;clear Hk hB l0 l1 l2 l3 l4 l5 l6;go_wp2_with fail
 refine Kw.out.mono ?_;rintro e w6 ⟨A,c,B',c2,E,ec,ms,rfl,Kj,Kx,Ky,Kz,Hl⟩;obtain⟨w7,Hm⟩:=exE (w6.alloc (.cells (Ja1 k i now nm A ts.length c B' c2 E es.length ec) 207));obtain⟨gc,Kk⟩:=exE w6.heap.size;have Hn:=Bx.new w6 207 (Ja1 k i now nm A ts.length c B' c2 E es.length ec);have G:=(qaa w6.heap.size w6).alloc (qab _) (.cells (Ja1 k i now nm A ts.length c B' c2 E es.length ec) 207);rw[<- Hm,<- Kk] at Hn;rw[<- Hm] at G;have V:=zI (Hl.trans (G.mono Hl.size));have hJ:=zI (Kh.out.trans (V.out.mono Kh.out.size));have Tp:=zI Hn;have Kl:=zI (Kx.below G);have Tq:=zI Hm;have Tr:=zI Kk;have Ts:=zI G.size;have o:ms.length=es.length:=by rw[<- Kj,qa4]
 have Ho:∀j (h1:j<ms.length) (h2:j<es.length),ms[j].e=es[j]:=fun j h1 h2=>by
  have e1:(ms.map Em.e)[j]'(by rw[qa4];exact h1)=ms[j].e:=qbq _;rw[<- e1];congr 1
 have KC:e0<=ms.length:=by rw[o];exact Td.out
 have KD:=zI (J15 (f0:=f0) e0 k i now nm A ts.length c B' c2 E es.length ec ts fl ms rs w7 (H.out.box.below V.out) (HD.out.below hJ.out) M.out Kl.out (by rw[T.out.rl,o]) (fun j h1 h2=>by rw[Ho j h1 (by rw[<- o];exact h1)];exact T.out.seg j (by rw[<- o];exact h1) h2) (fun j h1 h2 hj=>by rw[Ho j h1 (by rw[<- o];exact h1)];exact Tb.out j (by rw[<- o];exact h1) h2 hj) KC (fun h9=>by rw[Ho e0 h9 (by rw[<- o];exact h9)];exact Tc.out (by rw[<- o];exact h9)));rw[o] at KD;have Tt:=zI Kj;have Tu:=zI Ky;have TU:=zI Kz;have KE:=zI Hl.size;obtain⟨x0,x1,x2,x3,x4,x5,x6,x7,x8,x9,x10,x11⟩:=Jbm Hn;clear Kj Kx Ky Kz Hl Hm Kk Hn G o Ho KC s0 s1 s2;go_upto_region 9 with fail
 have KG:w6.alloc (.cells #[.int .u64 (k:Int),.int .u64 (i:Int),(now:Int),nm,.slice A ts.length c,.slice B' ts.length c2,ByteArray.empty,(),(),(0:Int),(0:Int),.slice E es.length ec] 207)=w7:=Tq.out.symm;rw[KG,<- Tr.out];clear KG;go_wp2_with fail
 refine KD.out.mono ?_;rintro e w8 Tw;rcases Tw with⟨Hp,rfl,KH⟩ | ⟨Hp,P,pc,ps,rfl,Km,Hq,y⟩
 · have K:=zI (hJ.out.trans (KH.mono hJ.out.size))
   clear KH;go_wp2_with fail
   exact qa6 (v:= .tuple #[.pointer none,.pointer none,(),(28:Int)]) (by simp[results,Tryz.results69,go_sem]) rfl (.inl ⟨Hp,rfl,K.out⟩)
 have Tx:=zI Hp;clear Hp;have S:ps.map Pm.e=es:=by rw[<- Tt.out,<- Km,qcl];rfl
 have Kn:ps.length=es.length:=by rw[<- S,qa4]
 have Hr:=T.out.ld ps S Hq;have Ty:=Kh.out.size;have KI:=hJ.out.size;have Tz:=y.bel.size;have KJ:=KE.out;have KK:=Ts.out
 have Ko:Jgy w8 (made w5 w8) P es.length ps:=by
  obtain⟨_,_,e8,TA⟩:=Jao y.row;cases e8
  refine⟨TA,Kn,fun p hp=> ?_,(Jck y.row).sub (fun b hb=>⟨by have:=hb.1;omega,hb.2⟩)⟩;have hm:p.em∈ms:=by rw[<- Km];exact qcu hp
  have hr:=Kl.out.hes.row _ hm;have TB:p.l∈rs:=by rw[<- Hq];exact qcu hp
  obtain⟨j,hj,ej⟩:=qb5 TB;have Kp:=T.out.seg j (by rw[<- T.out.rl];exact hj) hj;rw[ej] at Kp;obtain⟨_,_,e9,TC⟩:=Jao (y.rc p hp);cases e9
  exact⟨hr.1.below y.bel,Jm1 TC Kp.fine (by have:=Kp.n.2;omega),hr.2.sub (fun b hb=>⟨by have:=hb.1;omega,by have:=hb.2;omega⟩),(Jck (y.rc p hp)).sub (fun b hb=>⟨by have:=hb.1;omega,hb.2⟩)⟩
 have Ha:=(H.out.box.below V.out).below y.bel;have TD:=zI (J14 k i now nm A ts.length c B' c2 E es.length ec ts fl ms P es.length pc ps t w8 Ha M.out (Kl.out.below y.bel) Ko (fun x hx=>hx.2) T.out.flo (by have:=T.out.fit.hen;omega) Hr.1 Hr.2.1 T.out.few T.out.need (Tu.out.sub (fun b hb=>⟨by have:=hb.1;omega,by have:=hb.2;omega⟩)));have TE:=zI Ko;have KL:=zI (show w5.heap.size<=w8.heap.size from by omega);have TF:=zI Ha;have K:=zI (hJ.out.trans (y.bel.mono KI));have KM:=zI (Tp.out.below y.bel);have TG:=zI S;have TH:=zI Kn;have I:=zI Hq;have TI:=zI Hr.2.2;have KN:=zI (V.out.trans (y.bel.mono V.out.size));clear x0 x1 x2 x3 x4 x5 x6 x7 x8 x9 x10 x11 Km S Kn Hq Hr Ty KI Tz KJ KK Ko Ha y;obtain⟨x0,x1,x2,x3,x4,x5,x6,x7,x8,x9,x10,x11⟩:=Jbm KM.out;go_wp2_with fail
 refine TD.out.mono ?_;rintro e w9 ⟨g',rfl,KO,Hs⟩;have TJ:=zI KO;have Ht:=zI Hs;have Hb:=zI (TF.out.below Hs);have KP:=zI (KM.out.below Hs);clear x0 x1 x2 x3 x4 x5 x6 x7 x8 x9 x10 x11 KO Hs;have c0:=KP.out.at_ 0 (v:= .int .u64 (k:Int)) rfl;have c1:=KP.out.at_ 1 (v:= .int .u64 (i:Int)) rfl;have y8:=Hb.out.at_ 8 (v:= .int .u64 0) rfl;have y9:=Hb.out.at_ 9 (v:= .int .u64 0) rfl;have f8:=Hb.out.free 8;have f9:=Hb.out.free 9;go_upto_region 17 with fail
 go_region
 obtain⟨w10,O⟩:=exE (((w9.setCell ⟨gx,8,none⟩ (.int .u64 (k:Int))).setCell ⟨gx,9,none⟩ (.int .u64 (i:Int))).drew);rw[<- O]
 have m:Chg (fun b=>b=gx) w9 w10:=by
  rw[O];exact(((Chg.set (F:=fun b=>b=gx) w9 ⟨gx,8,none⟩ (.int .u64 (k:Int)) rfl).trans (Chg.set (F:=fun b=>b=gx) _ ⟨gx,9,none⟩ (.int .u64 (i:Int)) rfl) (fun b e=> .inl e)).trans (Chg.of_below (qaa _ _).drew) (fun b e=> .inl e))
 have Hc:Bo w10 gx (Jdm N C B D R ⟨gd,0,none⟩ k i mp bk none 0):=by
  rw[O];exact((Hb.out.set 8 (.int .u64 (k:Int))).set 9 (.int .u64 (i:Int))).drew
 have KQ:=H.out.box.lt;have u:=H.out.low;have TK:=Kg.out.size;have KR:=KL.out;have Hy:=(TE.out.below Ht.out).chg m (fun x hx e=>by have h1:=hx.1;omega);have TL:=zI (J0t (c:=pc) w10 Hc M.out Hy (fun hf=>by have h1:=hf.1;omega) TI.out (by have:=T.out.fit.hen;omega));have TM:=zI (TJ.out.chg m (fun x hx e=>by have h1:=hx.1;omega));have Hd:=zI (K.out.trans ((Ht.out.mono K.out.size).trans (m.below (fun x e=>by rw[e];omega) (qax K.out.size Ht.out.size))));have KS:=zI Hc;have KT:=zI m.size;have KU:=zI (show w.heap.size<=gx/\gx<w8.heap.size from by omega);have He:=(((To.out.below KN.out).below Ht.out).chg m (fun e=>by have h1:=Kf.out.lt;omega));have Kq:=zI He;clear c0 c1 y8 y9 f8 f9 O m Hc KQ u TK KR Hy He;go_wp2_with fail
 refine TL.out.mono ?_;rintro e w11 ⟨rfl,mp8,bk8,FB8,J,hI⟩;have u:=J.low;have Hz:=Hd.out.size;have Hu:=KU.out;have g:=zI (Hd.out.trans (J.chg.below (fun x e=>by rw[e];exact Hu.1) Hz));have Hv:=zI (show ∀x,F x ->x<w.heap.size from HD.out.ins);have KV:=zI (TM.out.chg J.chg (fun x hx e=>by have h1:=hx.1;omega))
 have KW:=zI (show SvS w11 FB8 F gx N C B D R gd k i mp8 bk8 q es.length none 0 (mapOf ps) (usOf ps) none (Jcf ps) none f from
  ⟨J.box,J.map,J.book,HD.out.below g.out,fun x hx hd=>by have h1:=u.2 x hx;have h2:=Hv.out x hd;omega,
   ⟨fun h=>by have h1:=u.2 gx h;have h2:=KS.out.lt;omega,fun h=>by have h2:=Hv.out _ h;omega⟩,⟨J.ne,fun h=>by have h1:=u.1;have h2:=Hv.out _ h;omega⟩⟩)
 have U:=Kq.out.chg J.chg (fun e=>by have h1:=Kf.out.lt;have h2:=H.out.low.1;omega);have Hw:=(qaa w11.heap.size w11).drew;have l1:=U.at_ 1 (v:= (2:Int)) rfl;have l1':=(U.below Hw).at_ 1 (v:= (2:Int)) rfl;have z8:=J.box.at_ 8 (v:= .int .u64 (k:Int)) rfl;have z8':=(J.box.below Hw).at_ 8 (v:= .int .u64 (k:Int)) rfl;have TN:Hid (Cs 135 #[gd,(2:Int),(16:Int),.int .u64 (k:Int)] w11.drew fun e w'=>∃v,e= .returned (.tuple #[v,(0:Int)])/\w'.ownsRow w11.drew.heap.size 9 1 v lr.length (lr.map fun l=>Value.string (strOf l))/\Below w11.drew.heap.size w11.drew w'):=zI ((HD.out.below (g.out.trans (Hw.mono g.out.size))).wread 2 k lr (by have:=M.out.n;omega) K7 T.out.fit.hg.2 Ta.out);have TO:=zI u;have Hx:=zI J.chg.size;clear u Hz Hu U Hw J hI;go_upto_region 19 with fail
 go_cut [15,7] (fun s15 s7 wx=>wx.ownsRow w11.heap.size 9 1 s15 lr.length (lr.map fun l=>Value.string (strOf l))/\s7= .int .i64 0/\Below w11.heap.size w11 wx)
 case first=>
  go_region_with (first
   | (go_at_call 135
      refine TN.out.mono ?_;rintro e w12 ⟨v12,rfl,a,Z⟩;have Hf:=zI (Jgj a (show w11.heap.size<=w11.drew.heap.size from by simp));obtain⟨A12,c12,rfl,_⟩:=Jao a))
  all_goals (go_split_ands;go_wp2_with fail;go_meet;exact⟨Hf.out,rfl,(qaa w11.heap.size w11).drew.trans (by simpa using Z)⟩)
 case rest=>
  obtain⟨a,rfl,Z⟩:=hcut;have Hf:=zI a;obtain⟨A12,c12,rfl,_⟩:=Jao a;have KX:=zI (KW.out.below Z);have H0:=zI (KV.out.below Z);have KY:=zI (g.out.trans (Z.mono g.out.size));clear a Z l1 l1' z8 z8';have TP:=zI K.out.size
  have TQ:Hid (OpS w wc FB8 (made w8 w9) F gx mp8 w11.heap.size):=zI (by
   have h8:=TP.out;have TV:=KT.out;have u:=TO.out;have Hu:=KU.out;have TW:=Hd.out.size;have TR:=g.out.size;have TT:=Hx.out;refine⟨⟨Hu.1,by have:=u.1;omega,fun x hx=>by have:=u.2 x hx;omega⟩,fun x hx=> ?_,TR,fun x hx=>by have:=hx.2;omega⟩;have h1:=hx.1;have h2:=hx.2;refine⟨by omega,⟨fun h=>by have:=u.2 x h;omega,fun h=>by have:=Hv.out x h;omega,by omega,H0.out.ins x hx⟩,by have:=u.1;omega⟩)
  go_wp2_with fail
  refine qa6 (v:= .tuple #[gx,g',.slice A12 lr.length c12,(0:Int)]) (by simp[results,Tryz.results69,go_sem]) rfl (.inr ⟨Tx.out,gx,g',mp8,bk8,FB8,made w8 w9,ps,_,_,rfl,TG.out,I.out,Hf.out,by rw[TH.out];exact KX.out,H0.out,TQ.out,KY.out⟩)
theorem J80{F:Nat ->Prop}{gd N C B D R q:Nat}{f:Int ->Option ByteArray}(k i:Nat)(now:Int)(nm:ByteArray)(ts:List Ti)(fl:List Int)(es:List En)(rs:List (List Rc))(l:List UInt8)(t:Tv)(lr:List (List UInt8))(w:World)(hD:DsAt w F gd N q f)(hL:Jd3 N C B D R)(hG:Glo w)(hO:Jg6 f N C B D R k i now nm ts fl es rs l t lr):
  Cs 69 #[gd] w fun e w'=>∃gx gs mp bk FB FS ps v B0,e= .returned (.tuple #[(gx:Nat),(gs:Nat),v,(0:Int)])/\ps.map Pm.e=es/\ps.map Pm.l=rs/\w'.ownsRow B0 9 1 v lr.length (lr.map fun l=>Value.string (strOf l))/\
   SvS w' FB F gx N C B D R gd k i mp bk q ps.length none 0 (mapOf ps) (usOf ps) none (Jcf ps) none f/\StAt w' FS gs R t/\OpS w w' FB FS F gx mp B0/\Below w.heap.size w w':=by
 refine(Jvj (f0:=f) es.length k i now nm ts fl es rs l t lr w hD hL hG hO (fun _ _=>rfl) (qab _) (fun j h1 h2 _=>hO.seg j h1 h2) (fun h=>absurd h (Nat.lt_irrefl _))).mono ?_;rintro e w' (⟨h,_⟩ | ⟨_,h⟩)
 · exact absurd h (Nat.lt_irrefl _)
 · exact h
theorem J16(t:Tv)(ps:List Pm):Jg0 t ps=(ps.map Pm.w).foldl ldX t:=by
 unfold Jg0;rw[List.foldl_map];rfl
theorem Jvk:∀es:List En,(es.flatMap enB).length=12*es.length+2*(es.flatMap En.bl).length
 | []=>rfl
 | e::es=>by
   rw[qau,qau,qad,qad,J8m,Jvk es,qa3];omega
theorem J5t(g i:Nat)(now:Int)(txt:List UInt8)(fl:List Int)(es:List En):(catB g i now txt fl es).length=46+txt.length+8*fl.length+12*es.length+2*(es.flatMap En.bl).length:=by
 unfold catB catH txB;simp only[qad,Ja2,Jvk,qbo];rw[Je9 (fun v:Int=>le 8 (u64 v)) 8 (fun a=>Ja2 8 _) fl];omega
section
variable {t:Tv} {N C B D R gen:Nat} {v0 v:SvV}
theorem SvG.wide{xs:List Wv}(h:SvG D N v0 xs v):(v.es.flatMap En.bl).length=needW xs:=by
 rw[List.length_flatMap];unfold needW
 congr 1
 apply qc7
 · rw[qa4,qa4,h.es]
 · intro j z y
   rw[qbq,qbq];exact(h.at_ j (by simpa using z) (by simpa using y)).2.2.1
theorem SvG.fits(hL:Jd3 N C B D R)(hg:t.Good)(hn:t.need<=(R:Int))(hv:SvG D N v0 (Jak t t.tabs.length) v)(hid:v0.id<1000000)(hgen:gen<1000000):
  Jik (gen+1) v.id t.r.now t.r.nm t.r.ts t.r.all v.es/\(catB (gen+1) v.id t.r.now (Py.printL t.r.nm.toList t.r.ts) t.r.all v.es).length<=C*256:=by
 have q:=hg.wv;have h:needW (Jak t t.tabs.length)<=R:=by have:=hg.needW;omega
 obtain⟨p,o,g,s,_⟩:=Py.check_fine hg.ck;have d:=Py.print_len p s g;have b:=hL.bd;have a:=hL.n;have Z:=hL.c;have y:=J5t (gen+1) v.id t.r.now (Py.printL t.r.nm.toList t.r.ts) t.r.all v.es;rw[hv.wide,hv.es,Rch.all_len] at y;have m:=q.n
 have Y:(catB (gen+1) v.id t.r.now (Py.printL t.r.nm.toList t.r.ts) t.r.all v.es).length<=C*256:=by
  rw[y];omega
 have key:∀e∈v.es,∃x∈Jak t t.tabs.length,e.tier=x.1/\e.shard=x.2.1/\e.bl.length=sgN x.2.2.length:=by
  intro e w;obtain⟨j,l,rfl⟩:=qb5 w;have u:j<(Jak t t.tabs.length).length:=by rw[<- hv.es];exact l
  obtain⟨a1,a2,a3,_⟩:=hv.at_ j l u;exact⟨_,qan u,a1,a2,a3⟩
 have k:=hv.id;refine⟨⟨⟨by omega,by omega⟩,by omega,hg.now,hg.nm,hg.ck,Rch.all_len _,?_,by rw[hv.es];omega,?_,?_,hv.nodup,by omega⟩,Y⟩
 · intro f s
   unfold Rch.all at s;obtain⟨i,W,rfl⟩:=qbn.1 s;have:=hg.flo i (qce.1 W);exact⟨this.1,this.2.1⟩
 · intro e w
   obtain⟨x,m,e1,e2,e3⟩:=key e w;have o:=q.fit x m;refine⟨hv.ids e w,by omega,by omega,by rw[e3];unfold sgN;omega,fun z hz=> ?_⟩;have:=hv.bl e w z hz;omega
 · have e:(v.es.map fun e=>plit (e.tier:Int) (e.shard:Int))=(Jak t t.tabs.length).map fun x=>plit (x.1:Int) (x.2.1:Int):=by
    apply qc7
    · rw[qa4,qa4,hv.es]
    · intro j o V
      rw[qbq,qbq];obtain⟨a1,a2,_,_⟩:=hv.at_ j (by simpa using o) (by simpa using V);rw[a1,a2]
   rw[e];exact q.place
theorem Jho(t:Tv)(i:Nat):(t.withFs t.r.all).r.from_ i=t.r.from_ i:=by
 unfold Tv.withFs Rch.from_;by_cases z:i<t.r.ts.length
 · simp only[qah z]
   have e:t.r.all[i]? =some (t.r.from_ i):=by
    unfold Rch.all;rw[qb3,qde z];rfl
   rw[e];show max (Je4 t.r.now (t.r.ts[i]).kp (t.r.nextEv i)) (t.r.from_ i)=_;unfold Rch.from_;simp only[qah z];cases t.r.fs[i]? with
   | none=>simp
   | some f=>simp only[];omega
 · simp only[qbj (Nat.le_of_not_lt z)]
theorem Jd8(t:Tv)(fl:List Int):∀k,Jbs (t.withFs fl) k=Jbs t k
 | 0=>rfl
 | k+1=>by unfold Jbs;rw[Jd8 t fl k];rfl
theorem Tv.Good.withFs(h:t.Good):(t.withFs t.r.all).Good:=
 ⟨h.ck,h.nm,h.len,h.now,fun i hi=>by rw[Jho];exact h.flo i hi,h.ord,fun i hi r hr=>by rw[Jho];exact h.fine i hi r hr,h.few⟩
theorem Jds(f:Int ->Option ByteArray)(a:Nat)(g:Nat ->ByteArray)(z:Int):∀k,(z<(a:Int)\/((a+k:Nat):Int)<=z) ->putN f a g k z=f z
 | 0,_=>rfl
 | k+1,h=>by
   show setS (putN f a g k) _ _ z=_;unfold setS;rw[qay (by omega)];exact Jds f a g z k (by omega)
theorem Jvl(f:Int ->Option ByteArray)(a:Nat)(g:Nat ->ByteArray):∀k j,j<k ->putN f a g k ((a+j:Nat):Int)=some (g j)
 | 0,_,h=>by omega
 | k+1,j,h=>by
   show setS (putN f a g k) _ _ _=_;unfold setS;by_cases e:j=k
   · subst e;rw[qa0 rfl]
   · rw[qay (by omega)];exact Jvl f a g k j (by omega)
theorem J99{l:List UInt8}{C:Nat}(h:l.length<=C*256):nbC l<=C:=by unfold nbC;omega
theorem J17(hL:Jd3 N C B D R)(hg:t.Good)(hn:t.need<=(R:Int))(hv:SvG D N v0 (Jak t t.tabs.length) v)(hid:v0.id<1000000)(hgen:gen<1000000)(hoth:∃o,Jl4 (Jav v0.f ((gen % 2:Nat):Int)) o/\∀x,o=some x ->x.1<=gen)(hlog:Jda v0.f 2 (gen+1) []):
  Jg6 (savF B N t (gen+1) v) N C B D R (gen+1) v.id t.r.now t.r.nm t.r.ts t.r.all v.es ((Jak t t.tabs.length).map fun x=>x.2.2) (savB t (gen+1) v) (t.withFs t.r.all) []:=by
 obtain⟨m,Z⟩:=hv.fits hL hg hn hid hgen;have Y:=hg.wv;have Ha:=hL.bd;have V:=hL.n;have Hb:=J99 Z;have Hc:18<=Jb5 B (gen+1)/\Jb5 B (gen+1)+C<=D:=by unfold Jb5;split<;>omega
 have U:=m.hlen;have hb:savB t (gen+1) v=catB (gen+1) v.id t.r.now (Py.printL t.r.nm.toList t.r.ts) t.r.all v.es:=rfl
 -- far from the catalogue and from the superblock
 have T:∀z:Int,(D:Int)<=z ->savF B N t (gen+1) v z=v.f z:=by
  intro z E;show setS (putN _ _ _ _) _ _ z=_;unfold setS;rw[qay (by omega)];exact Jds _ _ _ _ _ (.inr (by rw[hb];omega))
 have low:∀z:Int,0<=z ->z<18 ->z≠(((gen+1) % 2:Nat):Int) ->Jav (savF B N t (gen+1) v) z=Jav v0.f z:=by
  intro z H E S;show(setS (putN _ _ _ _) _ _ z).getD _=_;unfold setS;rw[qay S,Jds _ _ _ _ _ (.inl (by omega)),hv.low z (by omega)];rfl
 refine⟨rfl,m,Z,fun j W=> ?_,?_,?_,?_,⟨by rw[Rch.all_len];exact qab _,fun i h h'=> ?_⟩,fun ps he hl=> ?_,hg.withFs.rare,?_,?_⟩
 · show(setS (putN _ _ _ _) _ _ _).getD _=_
   unfold setS;rw[qay (by omega),Jvl _ _ _ _ _ W];rfl
 · have g:Jl4 (Jav (savF B N t (gen+1) v) (((gen+1) % 2:Nat):Int)) (some (gen+1,N,(savB t (gen+1) v).length)):=by
    refine⟨?_,by omega,by omega,V.1,V.2,U⟩;show(setS (putN _ _ _ _) _ _ _).getD _=_;unfold setS;rw[qa0 rfl];rfl
   obtain⟨o,ho,P⟩:=hoth;have d:Jl4 (Jav (savF B N t (gen+1) v) ((gen % 2:Nat):Int)) o:=by rw[low _ (by omega) (by omega) (by omega)];exact ho
   by_cases y:gen % 2=0
   · rw[show(gen+1) % 2=1 from by omega] at g
     rw[y] at d;refine⟨o,_,d,g,?_⟩;unfold bsts bst;cases o with
     | none=>simp
     | some x=>
       have:=P x rfl;simp only[];by_cases H:(0:Nat)<x.1
       · rw[qa0 H,qa0 (by omega)]
       · rw[qay H,qa0 (by omega)]
   · rw[show(gen+1) % 2=0 from by omega] at g
     rw[show gen % 2=1 from by omega] at d;refine⟨_,o,g,d,?_⟩;have e1:bst (0,0,0) (some (gen+1,N,(savB t (gen+1) v).length))=(gen+1,N,(savB t (gen+1) v).length):=(by simp[bst]);show bst (bst (0,0,0) (some (gen+1,N,(savB t (gen+1) v).length))) o=_;rw[e1];cases o with
     | none=>rfl
     | some x=>
       have:=P x rfl;have k: ¬ gen+1<x.1:=(by omega);simp[bst,k]
 · rw[qa4,hv.es]
 · intro j O k
   have c:j<(Jak t t.tabs.length).length:=by simpa using k
   obtain⟨a1,a2,a3,a4⟩:=hv.at_ j O c;have u:=Y.fit _ (qan c);rw[qbq];have M:=hv.bl _ (qan O);refine⟨fun q hq=> ?_,a3,⟨u.2.2.1,u.2.2.2.1⟩,u.2.2.2.2.1,u.2.2.2.2.2,M⟩;have E:=(M _ (qan hq)).1;have G:=a4 q hq;show some ((savF B N t (gen+1) v _).getD _)=_;rw[T _ E];have A:q<(sgL v.es[j].id v.es[j].tier v.es[j].shard (Jak t t.tabs.length)[j].2.2).length:=by rw[Jcz,<- a3];exact hq
   rw[G,qah A];rfl
 · have K:i<t.r.ts.length:=h'
   have k:=hg.flo i K
   have e:t.r.all[i]'h=t.r.from_ i:=by
    have e0:t.r.all[i]? =some (t.r.from_ i):=by
     unfold Rch.all;rw[qb3,qde K];rfl
    rw[qah h] at e0;exact qbr e0
   rw[e,<- Rch.ev_at K];exact⟨k.1,k.2.2⟩
 · have hJ:ps.length=(Jak t t.tabs.length).length:=by
    have:=congrArg List.length hl
    simpa using this
   have Hd:ps.length=v.es.length:=by rw[<- he,qa4]
   have b:ps.map Pm.w=Jak t t.tabs.length:=by
    apply qc7
    · rw[qa4,hJ]
    · intro j O k
      have W:j<ps.length:=(by simpa using O);have c:j<v.es.length:=(by omega);obtain⟨a1,a2,_,_⟩:=hv.at_ j c k
      have e1:ps[j].e=v.es[j]:=by
       have:(ps.map Pm.e)[j]'(by rw[qa4];exact W)=ps[j].e:=qbq _;rw[<- this];congr 1
      have e2:ps[j].l=((Jak t t.tabs.length)[j]).2.2:=by
       have h3:(ps.map Pm.l)[j]'(by rw[qa4];exact W)=ps[j].l:=qbq _;have G:((Jak t t.tabs.length).map fun x=>x.2.2)[j]'(by rw[qa4];exact k)=((Jak t t.tabs.length)[j]).2.2:=qbq _;rw[<- h3,<- G];congr 1
      rw[qbq];unfold Pm.w;rw[e1,e2,a1,a2]
   refine⟨fun j W=> ?_,?_,?_⟩
   · have L:ps[j].w∈Jak t t.tabs.length:=by rw[<- b];exact qcu (qan W)
     have u:=Y.fit _ L;obtain⟨i,s,F,hs,exx,S⟩:=Jgu L;have e1:ps[j].e.tier=i:=congrArg (fun x:Wv=>x.1) exx;have e2:ps[j].e.shard=s:=congrArg (fun x:Wv=>x.2.1) exx;have e3:ps[j].l=Ja4 (t.r.sh i).toNat (t.tab i) s:=congrArg (fun x:Wv=>x.2.2) exx;have He:=hg.sh F;have Hf:=hg.ev F;obtain⟨K,_,_,hK⟩:=hg.ti F;have J:(Jg0 ⟨⟨t.r.now,t.r.nm,t.r.ts,t.r.all⟩,List.replicate t.r.ts.length []⟩ (ps.take j)).r=(t.withFs t.r.all).r:=J8z _ _;refine⟨by rw[e1];exact K,⟨(t.r.sh i).toNat,fun K'=> ?_,by omega,by omega,by omega,fun r J=> ?_⟩,u.2.2.2.1,fun r hr'=> ?_,?_,?_⟩
     · have:t.r.ts[ps[j].e.tier]'K'=t.r.ts[i]'K:=by congr 1
       rw[this,<- hK];omega
     · rw[e3] at J
       rw[e2];exact(Jim J).2
     · rw[J,e1,Jho]
       rw[e3] at hr';have:=hg.fine i F r (Jim hr').1;exact⟨this.2.2,this.2.1⟩
     · rw[J,e1]
       show -9223372036854775808<=t.r.ev i/\t.r.ev i<=_;omega
     · rw [J16,e1]
       have hm:=Jve i ((ps.take j).map Pm.w) ⟨⟨t.r.now,t.r.nm,t.r.ts,t.r.all⟩,List.replicate t.r.ts.length []⟩
       have H:(Tv.tab ⟨⟨t.r.now,t.r.nm,t.r.ts,t.r.all⟩,List.replicate t.r.ts.length []⟩ i).length=0:=by
        unfold Tv.tab;simp only[qdf,List.getElem?_replicate];split<;>rfl
       have I:∀xs:List Wv,(∀x∈xs,x.2.2.length<=10000) ->(xs.map fun x=>x.2.2.length).sum<=10000*xs.length:=by
        intro xs
        induction xs with
        | nil=>intro _;simp
        | cons a r ih=>
          intro h;have O:=h a (by simp);have k:=ih (fun x u=>h x (by simp[u]));simp only[qbz,qda,qa3];omega
       have h3:=I ((ps.take j).map Pm.w) (fun x u=>by
        rw[List.map_take,b] at u;exact(Y.fit x (qbi u)).2.2.2.1)
       have G:((ps.take j).map Pm.w).length<=40:=by
        rw[qa4,qao];have:=Y.n;omega
       have h5:ps[j].l.length<=10000:=u.2.2.2.1;omega
   · rw[J16,b]
     exact(Jw8 hg t.r.all).symm
   · have mem:∀p∈ps,p.e∈v.es:=fun p y=>by rw[<- he];exact qcu y
     have fit:∀p∈ps,p.w∈Jak t t.tabs.length:=fun p y=>by rw[<- b];exact qcu y
     refine⟨fun p y=>(Y.fit _ (fit p y)).1,fun p y=>by have:=(Y.fit _ (fit p y)).2.1;exact Nat.le_of_lt_succ this,fun p y e=> ?_,fun p y=>hv.bl _ (mem p y),?_⟩
     · have:=(m.hok _ (mem p y)).len.1
       rw[e] at this;simp at this
     · have:(ps.flatMap fun p=>p.e.bl)=(ps.map Pm.e).flatMap En.bl:=by rw[qdp]
       rw[this,he];exact hv.nodup
 · show Jbs _ _<=_
   rw[show(t.withFs t.r.all).tabs.length=t.tabs.length from rfl,Jd8];exact hn
 · refine hlog.far fun q hq=> ?_
   show setS (putN _ _ _ _) _ _ _=_;unfold setS;rw[qay (by omega),Jds _ _ _ _ _ (.inl (by omega)),hv.low _ (by omega)]
end
