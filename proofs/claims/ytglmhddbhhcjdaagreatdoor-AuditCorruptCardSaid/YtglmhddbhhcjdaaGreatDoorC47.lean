/- Laws that the walk of the last text wants. -/
import Derived.Test.YtglmhddbhhcjdaaGreatDoorC44
import Derived.Test.YtglmhddbhhcjdaaGreatDoorC45
import Derived.Test.YtglmhddbhhcjdaaGreatDoorC46
set_option maxRecDepth 100000
set_option linter.unusedSimpArgs false
set_option maxHeartbeats 4000000
namespace Go.Proofs.YtglmhddbhhcjdaaGreatDoor
open Go.RowKit
section
variable {F:Nat ->Prop} {ge gd N C B D R gen q:Nat} {ps:List Pm} {f:Int ->Option ByteArray} {t t0:Tv} {rs:List (List UInt8)}
end
theorem Jrt(f:Int ->Option ByteArray):Jda (Jlk f 18) 2 1 []:=Jda.zero fun q hq=>Jqz f 18 (2+q) (by omega)
theorem J9d{w3 w4 w:World}{F FB FD FT:Nat ->Prop}{gx gd gs mp bk gl q:Nat}{v:SvV}{f:Int ->Option ByteArray}(hs:Jfi w4 FB FD gx 90 10 28 38 26 gd 1 mp bk q gl v [] webT)(hv:SvG 38 90 ⟨0,[],Jlk f 18,[]⟩ (Jak webT webT.tabs.length) v)(hst:StAt w4 FT gs 26 webT)(hb3:w.heap.size<=w3.heap.size)(hz:w3.heap.size<=w4.heap.size)(hF:∀x,F x ->x<w.heap.size)(hFT:∀x,FT x ->w.heap.size<=x/\x<w3.heap.size)(hFB:∀x,FB x ->w3.heap.size<=x)(hFD:∀x,FD x ->grow F w3 w4 x)(hmp:w3.heap.size<=mp)(hgl:w3.heap.size<=gl/\ ¬ FB gl/\ ¬ FD gl)(hlow:∀x,F x ->gB<=x)(hG:gB<=w.heap.size):
  ∃G f',Jat (w4.alloc (.cells (Jow 90 10 28 38 26 gd 1 v.id mp bk gl gs) 71)) G w4.heap.size gd 90 10 28 38 26 1 q [] f' webT [] (webT.withFs webT.r.all)/\(∀x,G x ->grow F w (w4.alloc (.cells (Jow 90 10 28 38 26 gd 1 v.id mp bk gl gs) 71)) x):=by
 obtain⟨w5,t⟩:=exE (w4.alloc (.cells (Jow 90 10 28 38 26 gd 1 v.id mp bk gl gs) 71));have z:Below w4.heap.size w4 w5:=by rw[t];exact(qaa _ _).alloc (qab _) _
 have p:Bx w5 w4.heap.size 71 (Jow 90 10 28 38 26 gd 1 v.id mp bk gl gs):=by rw[t];exact Bx.new _ _ _
 have i:w5.heap.size=w4.heap.size+1:=by rw[t];simp
 rw[<- t]
 have g:v.id=0:=by
  have m:=hv.id;have l:(Jak webT webT.tabs.length).length=v.es.length:=hv.es.symm;rw[Jlt hv] at l;have e:v.id=0+(Jak webT webT.tabs.length).length:=m;rw[e,l];rfl
 have y:=hs.st.book.ins;have s:=hs.st.disk.ins;have k:=hs.st.map.lt;have j:=hs.log.lt
 have d:EngS w5 FB FD FT w4.heap.size gs gl 90 10 28 38 26 gd 1 v.id mp bk q (layAll 1 0 []).length [] (savF 28 90 webT 1 v) webT []:=
  ⟨⟨⟨⟨_,#[gs,true],by simpa[Jow] using p⟩⟩,hs.st.map.below z,hs.st.book.below z,hs.st.disk.below z,hs.st.dj,⟨fun h=>Nat.lt_irrefl _ (y _ h),fun h=>Nat.lt_irrefl _ (s _ h)⟩,hs.st.nmp⟩,p,hst.below z,hs.log.below z,
   fun x hx=>by
    have m:=hFT x hx;refine⟨⟨fun h=>by have:=hFB x h;omega,fun h=> ?_,by omega,by omega⟩,by omega,by omega⟩;rcases hFD x h with h | h
    · have:=hF x h;omega
    · have:=h.1;omega,⟨hgl.2.1,hgl.2.2,by omega⟩⟩
 have u:∀x,(engF FB FD FT w4.heap.size gl x\/x=mp) ->grow F w w5 x:=by
  rintro x ((h | h | h | h | h) | h)
  · exact .inr ⟨by omega,by omega⟩
  · exact .inr ⟨by omega,by omega⟩
  · exact .inr ⟨by have:=hFB x h;omega,by have:=y x h;omega⟩
  · rcases hFD x h with h | h
    · exact .inl h
    · exact .inr ⟨by have:=h.1;omega,by have:=h.2;omega⟩
  · exact .inr ⟨by have:=hFT x h;omega,by have:=hFT x h;omega⟩
  · exact .inr ⟨by omega,by omega⟩
 have o:Jda (savF 28 90 webT 1 v) 2 1 []:=(Jrt f).far fun q hq=>by
  show setS (putN _ _ _ _) _ _ _=_;unfold setS;rw[qay (by omega),Jds _ _ _ _ _ (.inl (by unfold Jb5;split<;>omega)),hv.low _ (by omega)]
 have n:=J17 (gen:=0) J50 Jb2 (by rw[Jga];decide) hv (by show(0:Nat)<1000000;omega) (by omega) ⟨none,Jqz f 18 0 (by omega),fun x hx=>by cases hx⟩ (Jrt f);refine⟨_,_,⟨⟨_,_,_,_,_,_,_,_,d,fun x hx=> .inl hx,by omega,.inr rfl⟩,o,⟨_,_,_,_,_,_,_,_,n,?_⟩,Jb2,by rw[Jga];decide,J50,by omega,fun x hx=> ?_,fun x hx=> ?_⟩,u⟩
 · rw[hv.wide]
   have:=Jb2.needW;show _=Jbs (webT.withFs webT.r.all) (webT.withFs webT.r.all).tabs.length;rw[Jd8];exact this
 · rcases u x hx with h | h
   · exact hlow x h
   · have:=h.1;omega
 · rcases u x hx with h | h
   · have:=hF x h;omega
   · exact h.2
theorem J2q{F:Nat ->Prop}{gd q:Nat}{f:Int ->Option ByteArray}(w:World)(hD:DsAt w F gd 90 q f)(hG:Glo w)(hlow:∀x,F x ->gB<=x)(hq:q<=300000):
  Cs 10 #[gd,Py.webB] w fun e w'=>∃ge G f',e= .returned (.tuple #[(ge:Nat),(0:Int)])/\Jat w' G ge gd 90 10 28 38 26 1 (q+10100) [] f' webT [] (webT.withFs webT.r.all)/\(∀x,G x ->grow F w w' x)/\Chg F w w':=by
 have N:=zI hD.blocks;have M:=zI (Joq 90 w (by omega) (by omega));have C:=zI hD;have B:=zI hG;have i:=zI hlow;have L:=zI hG.low;clear hD hG hlow;go_enter Tryz.func10,Tryz.ntmps10;go_wp2_with fail
 refine N.out.mono ?_;rintro e w0 ⟨rfl,A⟩;subst A;go_wp2_with fail
 refine M.out.mono ?_;rintro e w1 ⟨rfl,o⟩;obtain⟨w2,y⟩:=exE (w1.alloc (.cells #[(90:Int),(2:Int),(18:Int),(28:Int),(10:Int),(38:Int),(26:Int)] 64));have n:=Bx.new w1 64 #[(90:Int),(2:Int),(18:Int),(28:Int),(10:Int),(38:Int),(26:Int)];rw[<- y] at n;have l:Below w.heap.size w w2:=by rw[y];exact o.alloc o.size _
 have x6:=n.at_ 6 (v:= (26:Int)) rfl;have K:=zI y;have u:=zI l;have J:=zI (Jux 26 Py.webB Py.webNm Py.webTs w2 (by omega) (by decide) Py.web_read (B.out.below l).m);clear n y o l;go_upto_region 6 with fail
 rw[<- K.out];go_wp2_with fail
 refine J.out.mono ?_;rintro e w3 ⟨gs,rfl,h,g⟩;have I:∀x,F x ->x<w.heap.size:=C.out.ins;have t:=zI (u.out.trans (g.mono u.out.size));have d:=zI (show StAt w3 (made w2 w3) gs 26 webT from h);have k:=u.out.size
 have H:=zI (J1n w3 (C.out.below t.out) J50 d.out (fun x hx hd=>by have O:=hx.1;have h2:=I x hd;omega) Jb2.want Jb2.wv (B.out.below t.out) (fun x hx=>i.out x hx)
  (fun v c=>c.fits J50 Jb2 (by rw[Jga];decide) (by show(0:Nat)<1000000;omega) (by omega)) (by rw[Jxm];omega) (by omega))
 have b:=zI I;clear h g I k x6;go_wp2_with fail
 refine H.out.mono ?_;rintro e w4 ⟨gx,FB,FD,mp,bk,gl,ps,v,q',rfl,c,a,s,E,Z,Y,p,W,V⟩;have U:v.es=[]:=Jlt c;have D:ps=[]:=by have O:=s.es;rw[U] at O;simpa using O
 subst D;have k:=u.out.size;have T:=t.out.size;have S:=d.out.chg p (fun x hx hd=>by have O:=hx.1;have h2:=b.out x hd;omega);have R:=zI (J9d (w:=w) (F:=F) s c S T p.size b.out (fun x hx=>⟨by have:=hx.1;omega,hx.2⟩) Z Y W V i.out L.out);have HC:=zI ((Chg.of_below t.out).trans p (fun x hx=> .inl hx));have HQ:=zI a;obtain⟨vi,j⟩:=exE v.id;have z:Bo w4 gx (Jdm 90 10 28 38 26 ⟨gd,0,none⟩ 1 vi mp bk (some ⟨gl,0,none⟩) 0):=by rw[j];exact s.st.box
 rw[<- j] at R;have c0:=z.at_ 0 (v:= (90:Int)) rfl;have c1:=z.at_ 1 (v:= (2:Int)) rfl;have c2:=z.at_ 2 (v:= (18:Int)) rfl;have c3:=z.at_ 3 (v:= (28:Int)) rfl;have c4:=z.at_ 4 (v:= (10:Int)) rfl;have c5:=z.at_ 5 (v:= (38:Int)) rfl;have c6:=z.at_ 6 (v:= (26:Int)) rfl;have c7:=z.at_ 7 (v:= gd) rfl;have c8:=z.at_ 8 (v:= .int .u64 1) rfl;have c9:=z.at_ 9 (v:= .int .u64 (vi:Int)) rfl;have c10:=z.at_ 10 (v:= .map (some mp)) rfl;have c11:=z.at_ 11 (v:= bk) rfl;have c12:=z.at_ 12 (v:= gl) rfl;have c13:=z.at_ 13 (v:= (0:Int)) rfl;clear U c a s E Z Y p W V S j z k T;go_wp2_with fail
 go_ret2;obtain⟨G,f',hE,P⟩:=R.out;exact⟨w4.heap.size,G,f',rfl,hE.up (by have:=HQ.out;omega),P,HC.out.then_below ((qaa _ _).alloc (qab _) _)⟩
theorem J2r:(webT.withFs webT.r.all).need=0:=by
 show Jbs (webT.withFs webT.r.all) (webT.withFs webT.r.all).tabs.length=0;rw[Jd8];exact Jga
theorem J2s:(webT.withFs webT.r.all).size=0:=rfl
theorem Jng(w:World)(hG:Glo w):
  Cs 9 #[] w fun e w'=>e= .returned true/\Below w.heap.size w w':=by
 have N:=zI hG;have M:=zI hG.low;have L:=zI (J0r 90 w (by omega) (by omega));clear hG;go_enter Tryz.func9,Tryz.ntmps9;go_wp2_with fail
 refine L.out.mono ?_;rintro e w1 ⟨gd,rfl,Y,l⟩;have W:=zI l;have K:=zI (J2q w1 Y (N.out.below l) (fun x hx=>by have:=hx.1;have:=M.out;omega) (by omega));clear Y l;go_wp2_with fail
 refine K.out.mono ?_;rintro e w2 ⟨ge,G,f',rfl,t,J,V⟩;have k:=W.out.trans (V.below (B:=w.heap.size) (fun x hx=>hx.1) W.out.size);obtain⟨FD,j,_⟩:=t.disk;have U:=zI (look_ok w2 j t.lay (N.out.below k) t.svd Jb2.withFs);rw[J2r,J2s] at U;have I:=zI j;have i:=zI t;have q:=zI k;clear t J V k j;go_wp2_with fail
 refine U.out.mono ?_;rintro e w3 ⟨rfl,h⟩;obtain⟨w4,p⟩:=exE (w3.alloc (.cells #[.int .u64 1,(0:Int),(0:Int),(0:Int),(0:Int),false] 57));obtain⟨g4,g⟩:=exE w3.heap.size;have T:Bx w4 g4 57 #[.int .u64 1,(0:Int),(0:Int),(0:Int),(0:Int),false]:=by rw[p,g];exact Bx.new _ _ _
 have S:Below w3.heap.size w3 w4:=by rw[p];exact(qaa _ _).alloc (qab _) _
 have r:Below w2.heap.size w2 w4:=h.trans (S.mono h.size);have H:=zI T;have n:=zI r;have F:=zI (q.out.trans (r.mono q.out.size));have E:=zI p;have D:=zI g;have C:=zI (Jux 5 Py.webB Py.webNm Py.webTs w4 (by omega) (by decide) Py.web_read (N.out.below F.out).m);clear h p g T S r;go_upto_region 4 with fail
 rw[<- E.out,<- D.out];go_wp2_with fail
 refine C.out.mono ?_;rintro e w5 ⟨gs,rfl,R,f⟩;have A:=zI (show StAt w5 (made w4 w5) gs 5 webT from R);have u:=n.out.trans (f.mono n.out.size);have b:=zI (q.out.trans (u.mono q.out.size));have hJ:=zI (J2k w5 (I.out.below u) i.out.lay (N.out.below b.out) i.out.svd Jb2.withFs);have Ha:=zI (i.out.below u);have y:=H.out.below f;have x0:=y.at_ 0 (v:= .int .u64 1) rfl;have x1:=y.at_ 1 (v:= (0:Int)) rfl;have x2:=y.at_ 2 (v:= (0:Int)) rfl;have x3:=y.at_ 3 (v:= (0:Int)) rfl;have x4:=y.at_ 4 (v:= (0:Int)) rfl;have x5:=y.at_ 5 (v:= false) rfl;clear R u f y;go_wp2_with fail
 refine hJ.out.mono ?_;rintro e w6 ⟨rfl,a⟩;have Z:=a.alloc a.size (.cells #[.string ⟨#[97]⟩] 9);have o:=Z.alloc Z.size (.cells #[(0:Int),(5:Int)] 3);have Hb:=zI ((Strs.new w6 9 w6.heap.size 1 [⟨#[97]⟩] #[.string ⟨#[97]⟩] rfl rfl rfl (by unfold maxLen;omega) (fun s hs=>by rw[qa1.1 hs];show(1:Nat)<=maxLen;unfold maxLen;omega)).alloc (.cells #[(0:Int),(5:Int)] 3));have Hc:=zI (Ints.new (w6.alloc (.cells #[.string ⟨#[97]⟩] 9)) 3 .i64 (w6.heap.size+1) 2 [0,5] #[(0:Int),(5:Int)] (by simp) rfl rfl (by unfold maxLen;omega) (fun z hz=>by simp at hz;rcases hz with rfl | rfl<;>rfl))
 have Hd:=zI (J89 (c:=1) (d:=2) _ (Ha.out.below o) (A.out.below o) Jb2 Hb.out Hc.out (fun _ _ _=>rfl));have P:=zI (b.out.trans (o.mono b.out.size));clear a Z o x0 x1 x2 x3 x4 x5;go_wp2_with fail
 refine Hd.out.mono ?_;rintro e w9 ⟨rfl,O⟩;have He:=zI (P.out.trans (O.mono P.out.size));clear O;go_wp2_with fail
 go_ret;exact⟨rfl,He.out⟩
theorem Jlv(k:Int):webT.tick k=webN k:=by
 show(⟨⟨0+k,_,_,_⟩,_⟩:Tv)=_;rw[Int.zero_add];rfl
theorem J2t(k:Int):(webN k).need=0:=rfl
theorem Jxt(gen:Nat)(s:List UInt8):(layAll gen 0 [s]).length=wlN s.length:=by
 have:=Jfj gen s [] 0;simp only[qck] at this;rw[this];simp[layAll,Jd7]
theorem Ji9{w:World}{v:Value}(x:Option Addr×Nat×Nat×List Smp)(hx:J05 w v x)(a b:Int)(ha: -9223372036854775808<=a/\a<=9223372036854775807)(hG:Glo w):
  Cs 4 #[v,(a:Int),(b:Int)] w fun e w'=>e= .returned true/\Below w.heap.size w w':=by
 obtain⟨A,n,c,l⟩:=x;obtain⟨rfl,hl⟩:=hx;dsimp only at hl;have HG:=zI hG;have Tf:=zI hG.low;have HL:=zI hl;have Tg:=zI (J46 8 A n c l w hl (by omega));have Kj:=zI (fun W (hW:Below w.heap.size w W)=>Jng W (hG.below hW));have hJ:=zI (Jng w hG);have HA:=zI ha;have Th:=zI (J53 (v:= .pointer none) 1 (by omega) w Jvm);have Hg:=hl.len;have Tj:=hl.n_le;have TQ:=zI Hg;unfold maxLen at Tj;clear hl hG ha Hg;dsimp only;by_cases Tk:n<1
 · have d0:decide ((n:Int)<1)=true:=qaj (by omega)
   go_enter Tryz.func4,Tryz.ntmps4;go_wp2_with fail
   refine hJ.out.mono ?_;rintro e w1 ⟨rfl,y⟩;have m:=zI y;clear y;go_wp2_with fail
   go_ret;exact⟨rfl,m.out⟩
 have d0:decide ((n:Int)<1)=false:=qae (by omega);obtain⟨cb,V⟩:=exE (IntKind.u8.wrap b);have Kk:0<=cb/\cb<256:=by rw[V,IntKind.wrap_u8];omega
 go_enter Tryz.func4,Tryz.ntmps4;go_wp2_with fail
 refine Tg.out.mono ?_;rintro e w0 ⟨bb,rfl,P,hw⟩;subst hw;rcases(show bb=false\/(bb=true/\cb=0)\/(bb=true/\cb≠0/\a<0)\/(bb=true/\cb≠0/\0<=a) from by cases bb<;>simp<;>omega) with rfl | ⟨rfl,g⟩ | ⟨rfl,g,C⟩ | ⟨rfl,g,C⟩
 · clear P
   go_wp2_with fail
   refine hJ.out.mono ?_;rintro e w1 ⟨rfl,y⟩;have m:=zI y;clear y;go_wp2_with fail
   go_ret;exact⟨rfl,m.out⟩
 · clear P
   have d1:IntKind.u8.wrap b=0:=by rw[<- V,g]
   go_wp2_with fail
   refine hJ.out.mono ?_;rintro e w1 ⟨rfl,y⟩;have m:=zI y;clear y;go_wp2_with fail
   go_ret;exact⟨rfl,m.out⟩
 · clear P
   have d1: ¬ IntKind.u8.wrap b=0:=by rw[<- V];exact g
   have d2:decide (a<0)=true:=qaj C;go_wp2_with fail
   refine hJ.out.mono ?_;rintro e w1 ⟨rfl,y⟩;have m:=zI y;clear y;go_wp2_with fail
   go_ret;exact⟨rfl,m.out⟩
 · have TV:=zI (show n<=8 from by have:=P rfl;omega)
   have HC:=zI (show 1<=cb/\cb<256 from by omega);have d1: ¬ IntKind.u8.wrap b=0:=by rw[<- V];exact g
   have d2:decide (a<0)=false:=qae (by omega);have TW:=zI (show 1<=n from by omega);have Kl:=zI C;have Tm:=zI V;clear P V Kk g C Tk;go_wp2_with fail
   refine Th.out.mono ?_;rintro e w1 ⟨rfl,y⟩;have Ht:=y.alloc y.size (.cells #[.int .u64 0,(0:Int),(0:Int),(0:Int),(0:Int),false] 57);obtain⟨w2,Hu⟩:=exE (w1.alloc (.cells #[.int .u64 0,(0:Int),(0:Int),(0:Int),(0:Int),false] 57));rw[<- Hu] at Ht;have Tn:=zI Hu;have Km:=zI Ht;have To:=zI (Jlu (v:= .pointer none) 1 (by omega) w2 (Jvm w2));clear y Ht Hu d1 d2 d0;go_upto_region 4 with fail
   rw[<- Tn.out];go_wp2_with fail
   refine To.out.mono ?_;rintro e w3 ⟨rfl,Kn⟩;have Ko:=zI (Km.out.trans (Kn.mono Km.out.size));have Kp:=zI (J0r 90 w3 (by omega) (by omega));clear Kn;go_wp2_with fail
   refine Kp.out.mono ?_;rintro e w4 ⟨gd0,rfl,Kq,Kr⟩;have Ks:=zI (Ko.out.trans (Kr.mono Ko.out.size));have Kt:=zI (J2l w4 Kq (by omega) rfl rfl);clear Kr Kq;go_wp2_with fail
   refine Kt.out.mono ?_;rintro e w5 ⟨rfl,Ku⟩;have Ha:=zI (Ks.out.trans (Ku.mono Ks.out.size));have Kv:=zI (J0r 90 w5 (by omega) (by omega));clear Ku;go_wp2_with fail
   refine Kv.out.mono ?_;rintro e w6 ⟨gd,rfl,Kw,Kx⟩;have Hb:=zI (Ha.out.trans (Kx.mono Ha.out.size));have Tp:=zI (J2q w6 Kw (HG.out.below Hb.out) (fun x hx=>by have:=hx.1;have:=Tf.out;have:=Ha.out.size;omega) (by omega));have Ky:=zI (show w.heap.size<=w5.heap.size from Ha.out.size);clear Kw Kx;go_wp2_with fail
   refine Tp.out.mono ?_;rintro e w7 ⟨ge,G,f7,rfl,Kz,KC,KD⟩
   have KE:=zI (show ∀x,G x ->w.heap.size<=x from fun x hx=>by
    rcases KC x hx with h | h
    · have:=h.1;have:=Ky.out;omega
    · have:=h.1;have:=Hb.out.size;omega)
   have KG:=Hb.out.trans (KD.below (B:=w.heap.size) (fun x hx=>by have:=hx.1;have:=Ky.out;omega) Hb.out.size);have KH:=zI (J5z 50 w7 Kz ⟨by omega,by decide⟩ (by decide) (by rw[Jlv];exact Jrb ⟨by omega,by omega⟩) (by rw[Jlv,J2t];decide) (by decide) (by omega));rw[Jlv] at KH;have Hv:=zI KG;clear Kz KC KD KG;go_wp2_with fail
   refine KH.out.mono ?_;rintro e w8 ⟨rfl,f8,Hw,KI⟩;have Hx:=Hv.out.trans (KI.below (B:=w.heap.size) (fun x hx=>KE.out x hx) Hv.out.size)
   have Hc:=zI (show ∀x,grow G w7 w8 x ->w.heap.size<=x from fun x hx=>by
    rcases hx with h | h
    · exact KE.out x h
    · have:=h.1;have:=Hv.out.size;omega)
   obtain⟨G8,KJ⟩:=exE (grow G w7 w8);rw[<- KJ] at Hw Hc
   have Tq:=zI (J9a (c:=c) l A n w8 Hw (HL.out.below Hx) (fun g a e hf=>by
    have C:=Hc.out _ hf;obtain⟨b,off,e',hb,_⟩:=HL.out.get (j:=0) g;rw[e'] at e;cases e
    exact absurd hb (by show ¬ b<w.heap.size;have:w.heap.size<=b:=C;omega)) (fun i hi=>by rw[Jj3];exact qaq _) (by rw[qck,Jxt,Jvn];decide) (by omega))
   have Hy:=zI Hx;clear Hw KI Hx KJ;go_wp2_with fail
   refine Tq.out.mono ?_;rintro e w9 ⟨r,f9,t9,rs9,rfl,Hz,H0,O⟩;have U:=Hy.out.trans (H0.below (B:=w.heap.size) (fun x hx=>Hc.out x hx) Hy.out.size)
   have KK:=zI (show ∀x,grow G8 w8 w9 x ->w.heap.size<=x from fun x hx=>by
    rcases hx with h | h
    · exact Hc.out x h
    · have:=h.1;have:=Hy.out.size;omega)
   by_cases KL:r=0
   · subst KL
     have Hh:t9.tab 0≠[]:=by
      rcases O with⟨_,h0,_,e,_⟩ | ⟨h0,_⟩
      · obtain⟨g,_,Tr⟩:=Rch.putErr_zero HL.out.ok h0
        rw[e];exact Kac (Jrb ⟨by omega,by omega⟩) g Tr rfl
      · exact absurd rfl h0
     have Ts:=zI Hh;have Tt:=zI (J57 w9 Hz (HG.out.below U) (by omega) (by omega));have R:=zI U;clear Hz H0 O U Hh;go_wp2_with fail
     refine Tt.out.mono ?_;rintro e w10 ⟨rfl,ps,f10,N,Hi,Hd⟩;have Hj:=R.out.trans (Hi.below (B:=w.heap.size) (fun x hx=>KK.out x hx) R.out.size);obtain⟨FB,FD,FT,gs,gl,mp,bk,id,g,C,_,_⟩:=N.ex;have H9:=Jls ⟨#[108,105,118,101]⟩ w10 g.sv (by decide);rw[show Led.heldV (Led.w3 none (Jcf ps) none) (⟨#[108,105,118,101]⟩:ByteArray).data.toList=usOf ps from(Led.hL3 none (Jcf ps) none).trans (Jne ps)] at H9;have M:=Hd.held (show(t9.withFs t9.r.all).tab 0≠[] from Ts.out);have Tu:=zI Hd;have Tw:=zI g.sv.disk
     have Tx:=zI (show ∀x,FD x ->w.heap.size<=x from fun x hx=>by
      rcases C x (.inr (.inr (.inr (.inl hx)))) with h | h
      · exact KK.out x h
      · have:=h.1;have:=R.out.size;omega)
     have Ka:=zI H9;have f:=zI Hj
     have KM:=zI (show ∀z∈usOf ps,(38:Int)<=z/\z<90 from fun z hz=>by
      obtain⟨p,hp,Ty⟩:=(Jii ps z).1 hz;exact Hd.hok.bl p hp z Ty)
     have Tz:=zI N.lay;clear N Hi Hd g C H9 Hj;obtain⟨us,Kb⟩:=exE (usOf ps);rw[<- Kb] at Ka KM M;have TA:=zI Kb;obtain⟨L,hL⟩:=exE us.length;rw[<- hL] at Ka;have TX:1<=L:=by rw[hL];exact qdd.2 M
     have TB:=zI hL;clear Kb hL M;go_wp2_with fail
     refine Ka.out.mono ?_;rintro e w11 ⟨vh,rfl,KN,d⟩;obtain⟨Ah,ch,rfl,KO⟩:=Jao KN;have Kc:0<=a.tmod (L:Int)/\a.tmod (L:Int)<(L:Int):=⟨Int.tmod_nonneg _ Kl.out,Int.tmod_lt_of_pos _ (by omega)⟩;obtain⟨j,hj⟩:∃j:Nat,a.tmod (L:Int)=(j:Int):=⟨(a.tmod (L:Int)).toNat,by omega⟩;rw[hj] at Kc;have He:j<us.length:=by rw[<- TB.out];omega
     obtain⟨bh,oh,rfl,TC,TD⟩:=KO.get (j:=j) (by simpa using He);simp only[qbq] at TD;have KP:=zI (qan He);generalize us[j]'He=z at*;have TY:=KM.out z KP.out;obtain⟨k,rfl⟩:∃k:Nat,z=(k:Int):=⟨z.toNat,by omega⟩;have Hk:=zI (f.out.trans (d.mono f.out.size));have u:=zI (Tw.out.below d);have Kd:=u.out.read k (by omega);obtain⟨S,hS⟩:=exE ((Jav f10 (k:Int)).toList);have Hf:Jav f10 (k:Int)=strOf S:=(by rw[hS,Jif])
     have t:S.length=256:=by
      obtain⟨_,_,_,TE,_⟩:=u.out;have:=TE.read_size (k:Int);rw[Hf,Jaa] at this;exact this
     rw[Hf] at Kd;have TF:=zI Kd;have TG:=zI Hf;clear Kd hS Hf;have TR:=zI d.size;clear KN d KO He TC;have d2:((L:Int)==0)=false:=by rw[qat];omega
     have d3:(L:Int)≠0:=(by omega);have TZ:(0:Int)<=(j:Int):=Kc.1;have T6:(j:Int)<(L:Int):=Kc.2;go_wp2_with fail
     refine TF.out.mono ?_;rintro e w12 ⟨rfl,Z⟩;obtain⟨cc,w13,KQ,K,KR,Y,J⟩:=Jxo S w12;rw[t] at KQ;have I:=zI (Hk.out.trans (Z.mono Hk.out.size));have KS:=zI (I.out.trans (K.mono I.out.size));have Ke:=zI ((u.out.below Z).below K);obtain⟨g13,Hl⟩:=exE w12.heap.size;rw[<- Hl] at KQ Y J;have Kf:0<=a.tmod 48/\a.tmod 48<48:=⟨Int.tmod_nonneg _ Kl.out,Int.tmod_lt_of_pos _ (by omega)⟩;obtain⟨jj,TH⟩:∃jj:Nat,a.tmod 48=(jj:Int):=⟨(a.tmod 48).toNat,by omega⟩;rw[TH] at Kf;have KT:jj<S.length:=(by omega);have TI:=Y jj KT;have T7:=J jj KT;obtain⟨cn,KU⟩:∃cn:Nat,cb=(cn:Int):=⟨cb.toNat,by have:=HC.out;omega⟩;obtain⟨vv,KV,KW,TJ⟩:=J55 (S[jj].toNat) cn (S[jj].toNat_lt) (by have:=HC.out;omega);have KX:b % 256=(cn:Int):=(by rw[<- KU,Tm.out,IntKind.wrap_u8]);rw[<- KX] at TJ
     obtain⟨H,KY,KZ,K7⟩:=Jti S t jj (by omega) (UInt8.ofNat vv) (fun e=>KW (by
      have:=congrArg UInt8.toNat e;rw[UInt8.toNat_ofNat'] at this;omega))
     have TK:=zI (Tu.out.spoilt (z:=(k:Int)) (T:=S.set jj (UInt8.ofNat vv)) (by rw[<- TA.out];exact KP.out) TG.out KY KZ K7);obtain⟨w14,s⟩:=exE (w13.setCell ⟨g13,jj,none⟩ (.int .u8 (vv:Int)));have K8:=zI s;have TL:g13<w13.heap.size:=(by omega);have Hm:Below w.heap.size w w14:=by rw[s];exact KS.out.setCell (show w.heap.size<=g13 from by have:=I.out.size;omega) _
     have Hn:=zI Hm
     have TM:=zI (show(convert 74 9 (.slice (some ⟨g13,0,none⟩) 256 cc)).run Tryz.prog w14= .ok (strOf (S.set jj (UInt8.ofNat vv))) w14 from by
      have:=Jxp (w:=w14) (b:=g13) (c:=cc) (l:=S.set jj (UInt8.ofNat vv)) (fun q hq=>by
       rw[List.length_set] at hq;rw[s];by_cases e:q=jj
       · subst e
         rw[qc6 _ _ _ TI,List.getElem_set_self,UInt8.toNat_ofNat',Nat.mod_eq_of_lt KV]
       · rw[qbh _ _ _ _ (by intro e2;cases e2;exact e rfl),List.getElem_set_ne (by omega),Y q hq])
      rw[List.length_set,t] at this;exact this)
     have Kg:=zI (show DsAt w14 FD gd 90 _ f10 from by
      rw[s];exact Ke.out.chg (Chg.set (F:=fun x=>x=g13) w13 ⟨g13,jj,none⟩ _ rfl) (fun x hx e=>by have g:=u.out.ins x hx;have C:=Z.size;have e':x=g13:=e;omega))
     have TN:=zI ((DsW.start Kg.out).write k (by omega) (strOf (S.set jj (UInt8.ofNat vv))) (by rw[Jaa,List.length_set,t]) (by omega));have TT:(0:Int)<=(jj:Int):=Kf.1;have TU:(jj:Int)<256:=(by omega);clear Z K KR Y J Hl Kf KV KW KY KZ K7 s Hm KX KU;go_upto_region 17 with fail
     rw[<- K8.out];have K9:=TM.out;go_wp2_with fail
     refine TN.out.mono ?_;rintro e w15 ⟨rfl,E⟩;have Ho:=E.at_;have o:=Hn.out.trans (E.chg.below (B:=w.heap.size) (fun x hx=>Tx.out x hx) Hn.out.size);have Kh:=zI (Kj.out w15 o);obtain⟨_,i,now,nm,ts,fl,rsg,lc,Ta,e0,TO,Tb,Tc⟩:=TK.out;have TP:=zI (fun W (hW:Below w15.heap.size w15 W)=>Jlu 28 (by omega) W (Jth (f0:=f10) e0 2 i now nm ts fl _ rsg lc _ [] W (Ho.below hW) Tz.out (HG.out.below (o.trans (hW.mono o.size))) Ta (fun z hz=>by unfold setS;rw[qay (by omega)]) TO Tb Tc));have Hp:=zI o;clear E Ho o Ta Tb Tc K9;go_wp2_with fail
     refine Kh.out.mono ?_;rintro e w16 ⟨rfl,D⟩;have Ki:=zI (TP.out w16 D);have Hq:=zI (Hp.out.trans (D.mono Hp.out.size));clear D;go_wp2_with fail
     refine Ki.out.mono ?_;rintro e w17 ⟨rfl,Hr⟩;have Td:=zI (Hq.out.trans (Hr.mono Hq.out.size));clear Hr;go_wp2_with fail
     go_ret;exact⟨rfl,Td.out⟩
   · have d1:(r==0)=false:=by rw[qat];exact KL
     have Te:=zI (Kj.out w9 U);have R:=zI U;clear Hz H0 O U;go_wp2_with fail
     refine Te.out.mono ?_;rintro e w10 ⟨rfl,Hs⟩;have f:=zI (R.out.trans (Hs.mono R.out.size));clear Hs;go_wp2_with fail
     go_ret;exact⟨rfl,f.out⟩
