/-
  Several texts in one: Engv, Engn, Alau, Engq, Repl, Snd, AuditFresh.
-/
import Derived.Test.YtglmhddbhhcjdaaGreatDoorV45
import Derived.Test.YtglmhddbhhcjdaaGreatDoorV46
set_option maxRecDepth 100000
set_option linter.unusedSimpArgs false
set_option maxHeartbeats 4000000
namespace Go.Proofs.YtglmhddbhhcjdaaGreatDoor
open Go.RowKit
section
variable {F:Nat ->Prop} {ge gd N C B D R gen q:Nat} {f:Int ->Option ByteArray} {t t0:Tv} {rs:List (List UInt8)}
end
section
variable {F:Nat ->Prop} {ge gd N C B D R gen q:Nat} {ps:List Pm} {f:Int ->Option ByteArray} {t t0:Tv} {rs:List (List UInt8)}
end
theorem Jrj(f:Int ->Option ByteArray):Jdz (Jkz f 18) 2 1 []:=Jdz.zero fun q hq=>Jqp f 18 (2+q) (by omega)
theorem J8q{w3 w4 w:World}{F FB FD FT:Nat ->Prop}{gx gd gs mp bk gl q:Nat}{v:SvV}{f:Int ->Option ByteArray}(hs:Jol w4 FB FD gx 90 10 28 38 26 gd 1 mp bk q gl v [] webT)(hv:SvG 38 90 ⟨0,[],Jkz f 18,[]⟩ (Jam webT webT.tabs.length) v)(hst:StAt w4 FT gs 26 webT)(hb3:w.heap.size<=w3.heap.size)(hz:w3.heap.size<=w4.heap.size)(hF:∀x,F x ->x<w.heap.size)(hFT:∀x,FT x ->w.heap.size<=x/\x<w3.heap.size)(hFB:∀x,FB x ->w3.heap.size<=x)(hFD:∀x,FD x ->grow F w3 w4 x)(hmp:w3.heap.size<=mp)(hgl:w3.heap.size<=gl/\ ¬ FB gl/\ ¬ FD gl)(hlow:∀x,F x ->gB<=x)(hG:gB<=w.heap.size):
  ∃G f',Jav (w4.alloc (.cells (Jsz 90 10 28 38 26 gd 1 v.id mp bk gl gs) 71)) G w4.heap.size gd 90 10 28 38 26 1 q [] f' webT [] (webT.withFs webT.r.all)/\(∀x,G x ->grow F w (w4.alloc (.cells (Jsz 90 10 28 38 26 gd 1 v.id mp bk gl gs) 71)) x):=by
 obtain⟨w5,t⟩:=exE (w4.alloc (.cells (Jsz 90 10 28 38 26 gd 1 v.id mp bk gl gs) 71));have z:Below w4.heap.size w4 w5:=by rw[t];exact(qaa _ _).alloc (qab _) _
 have p:Bx w5 w4.heap.size 71 (Jsz 90 10 28 38 26 gd 1 v.id mp bk gl gs):=by rw[t];exact Bx.new _ _ _
 have i:w5.heap.size=w4.heap.size+1:=by rw[t];simp
 rw[<- t]
 have g:v.id=0:=by
  have m:=hv.id;have l:(Jam webT webT.tabs.length).length=v.es.length:=hv.es.symm;rw[Jla hv] at l;have e:v.id=0+(Jam webT webT.tabs.length).length:=m;rw[e,l];rfl
 have y:=hs.st.book.ins;have s:=hs.st.disk.ins;have k:=hs.st.map.lt;have j:=hs.log.lt
 have d:EngS w5 FB FD FT w4.heap.size gs gl 90 10 28 38 26 gd 1 v.id mp bk q (layAll 1 0 []).length [] (savF 28 90 webT 1 v) webT []:=
  ⟨⟨⟨⟨_,#[gs,true],by simpa[Jsz] using p⟩⟩,hs.st.map.below z,hs.st.book.below z,hs.st.disk.below z,hs.st.dj,⟨fun h=>Nat.lt_irrefl _ (y _ h),fun h=>Nat.lt_irrefl _ (s _ h)⟩,hs.st.nmp⟩,p,hst.below z,hs.log.below z,
   fun x hx=>by
    have m:=hFT x hx;refine⟨⟨fun h=>by have:=hFB x h;omega,fun h=> ?_,by omega,by omega⟩,by omega,by omega⟩;rcases hFD x h with h | h
    · have:=hF x h;omega
    · have:=h.1;omega,⟨hgl.2.1,hgl.2.2,by omega⟩⟩
 have u:∀x,(engF FB FD FT w4.heap.size gl x\/x=mp) ->grow F w w5 x:=by
  rintro x ((h | h | h | h | h) | h)
  · exact .inr ⟨by omega,by omega⟩
  · exact .inr ⟨by omega,by omega⟩
  · exact .inr ⟨by have:=hFB x h;omega,by have:=y x h;omega⟩
  · rcases hFD x h with h | h
    · exact .inl h
    · exact .inr ⟨by have:=h.1;omega,by have:=h.2;omega⟩
  · exact .inr ⟨by have:=hFT x h;omega,by have:=hFT x h;omega⟩
  · exact .inr ⟨by omega,by omega⟩
 have o:Jdz (savF 28 90 webT 1 v) 2 1 []:=(Jrj f).far fun q hq=>by
  show setS (putN _ _ _ _) _ _ _=_;unfold setS;rw[qav (by omega),Jew _ _ _ _ _ (.inl (by unfold Jck;split<;>omega)),hv.low _ (by omega)]
 have n:=J9r (gen:=0) J5a Jaz (by rw[Jf6];decide) hv (by show(0:Nat)<1000000;omega) (by omega) ⟨none,Jqp f 18 0 (by omega),fun x hx=>by cases hx⟩ (Jrj f);refine⟨_,_,⟨⟨_,_,_,_,_,_,_,_,d,fun x hx=> .inl hx,by omega,.inr rfl⟩,o,⟨_,_,_,_,_,_,_,_,n,?_⟩,Jaz,by rw[Jf6];decide,J5a,by omega,fun x hx=> ?_,fun x hx=> ?_⟩,u⟩
 · rw[hv.wide]
   have:=Jaz.needW;show _=Jbx (webT.withFs webT.r.all) (webT.withFs webT.r.all).tabs.length;rw[Jd0];exact this
 · rcases u x hx with h | h
   · exact hlow x h
   · have:=h.1;omega
 · rcases u x hx with h | h
   · have:=hF x h;omega
   · exact h.2
theorem J1q{F:Nat ->Prop}{gd q:Nat}{f:Int ->Option ByteArray}(w:World)(hD:DsAt w F gd 90 q f)(hG:Glo w)(hlow:∀x,F x ->gB<=x)(hq:q<=300000):
  Cs 10 #[gd,Py.webB] w fun e w'=>∃ge G f',e= .returned (.tuple #[(ge:Nat),(0:Int)])/\Jav w' G ge gd 90 10 28 38 26 1 (q+10100) [] f' webT [] (webT.withFs webT.r.all)/\(∀x,G x ->grow F w w' x)/\Chg F w w':=by
 have N:=zI hD.blocks;have M:=zI (Jod 90 w (by omega) (by omega));have C:=zI hD;have B:=zI hG;have i:=zI hlow;have L:=zI hG.low;clear hD hG hlow;go_enter Tryz.func10,Tryz.ntmps10;go_wp2_with fail
 refine N.out.mono ?_;rintro e w0 ⟨rfl,A⟩;subst A;go_wp2_with fail
 refine M.out.mono ?_;rintro e w1 ⟨rfl,o⟩;obtain⟨w2,y⟩:=exE (w1.alloc (.cells #[(90:Int),(2:Int),(18:Int),(28:Int),(10:Int),(38:Int),(26:Int)] 64));have n:=Bx.new w1 64 #[(90:Int),(2:Int),(18:Int),(28:Int),(10:Int),(38:Int),(26:Int)];rw[<- y] at n;have l:Below w.heap.size w w2:=by rw[y];exact o.alloc o.size _
 have x6:=n.at_ 6 (v:= (26:Int)) rfl;have K:=zI y;have u:=zI l;have J:=zI (Jt9 26 Py.webB Py.webNm Py.webTs w2 (by omega) (by decide) Py.web_read (B.out.below l).m);clear n y o l;go_upto_region 6 with fail
 rw[<- K.out];go_wp2_with fail
 refine J.out.mono ?_;rintro e w3 ⟨gs,rfl,h,g⟩;have I:∀x,F x ->x<w.heap.size:=C.out.ins;have t:=zI (u.out.trans (g.mono u.out.size));have d:=zI (show StAt w3 (made w2 w3) gs 26 webT from h);have k:=u.out.size
 have H:=zI (J06 w3 (C.out.below t.out) J5a d.out (fun x hx hd=>by have O:=hx.1;have h2:=I x hd;omega) Jaz.want Jaz.wv (B.out.below t.out) (fun x hx=>i.out x hx)
  (fun v c=>c.fits J5a Jaz (by rw[Jf6];decide) (by show(0:Nat)<1000000;omega) (by omega)) (by rw[Jw2];omega) (by omega))
 have b:=zI I;clear h g I k x6;go_wp2_with fail
 refine H.out.mono ?_;rintro e w4 ⟨gx,FB,FD,mp,bk,gl,ps,v,q',rfl,c,a,s,E,Z,Y,p,W,V⟩;have U:v.es=[]:=Jla c;have D:ps=[]:=by have O:=s.es;rw[U] at O;simpa using O
 subst D;have k:=u.out.size;have T:=t.out.size;have S:=d.out.chg p (fun x hx hd=>by have O:=hx.1;have h2:=b.out x hd;omega);have R:=zI (J8q (w:=w) (F:=F) s c S T p.size b.out (fun x hx=>⟨by have:=hx.1;omega,hx.2⟩) Z Y W V i.out L.out);have HC:=zI ((Chg.of_below t.out).trans p (fun x hx=> .inl hx));have HQ:=zI a;obtain⟨vi,j⟩:=exE v.id;have z:Bo w4 gx (Jdv 90 10 28 38 26 ⟨gd,0,none⟩ 1 vi mp bk (some ⟨gl,0,none⟩) 0):=by rw[j];exact s.st.box
 rw[<- j] at R;have c0:=z.at_ 0 (v:= (90:Int)) rfl;have c1:=z.at_ 1 (v:= (2:Int)) rfl;have c2:=z.at_ 2 (v:= (18:Int)) rfl;have c3:=z.at_ 3 (v:= (28:Int)) rfl;have c4:=z.at_ 4 (v:= (10:Int)) rfl;have c5:=z.at_ 5 (v:= (38:Int)) rfl;have c6:=z.at_ 6 (v:= (26:Int)) rfl;have c7:=z.at_ 7 (v:= gd) rfl;have c8:=z.at_ 8 (v:= .int .u64 1) rfl;have c9:=z.at_ 9 (v:= .int .u64 (vi:Int)) rfl;have c10:=z.at_ 10 (v:= .map (some mp)) rfl;have c11:=z.at_ 11 (v:= bk) rfl;have c12:=z.at_ 12 (v:= gl) rfl;have c13:=z.at_ 13 (v:= (0:Int)) rfl;clear U c a s E Z Y p W V S j z k T;go_wp2_with fail
 go_ret2;obtain⟨G,f',hE,P⟩:=R.out;exact⟨w4.heap.size,G,f',rfl,hE.up (by have:=HQ.out;omega),P,HC.out.then_below ((qaa _ _).alloc (qab _) _)⟩
theorem Jlc:(webT.withFs webT.r.all).need=0:=by
 show Jbx (webT.withFs webT.r.all) (webT.withFs webT.r.all).tabs.length=0;rw[Jd0];exact Jf6
theorem Jld:(webT.withFs webT.r.all).size=0:=rfl
theorem Jm1(w:World)(hG:Glo w):
  Cs 9 #[] w fun e w'=>e= .returned true/\Below w.heap.size w w':=by
 have N:=zI hG;have M:=zI hG.low;have L:=zI (J5y 90 w (by omega) (by omega));clear hG;go_enter Tryz.func9,Tryz.ntmps9;go_wp2_with fail
 refine L.out.mono ?_;rintro e w1 ⟨gd,rfl,Y,l⟩;have W:=zI l;have K:=zI (J1q w1 Y (N.out.below l) (fun x hx=>by have:=hx.1;have:=M.out;omega) (by omega));clear Y l;go_wp2_with fail
 refine K.out.mono ?_;rintro e w2 ⟨ge,G,f',rfl,t,J,V⟩;have k:=W.out.trans (V.below (B:=w.heap.size) (fun x hx=>hx.1) W.out.size);obtain⟨FD,j,_⟩:=t.disk;have U:=zI (look_ok w2 j t.lay (N.out.below k) t.svd Jaz.withFs);rw[Jlc,Jld] at U;have I:=zI j;have i:=zI t;have q:=zI k;clear t J V k j;go_wp2_with fail
 refine U.out.mono ?_;rintro e w3 ⟨rfl,h⟩;obtain⟨w4,p⟩:=exE (w3.alloc (.cells #[.int .u64 1,(0:Int),(0:Int),(0:Int),(0:Int),false] 57));obtain⟨g4,g⟩:=exE w3.heap.size;have T:Bx w4 g4 57 #[.int .u64 1,(0:Int),(0:Int),(0:Int),(0:Int),false]:=by rw[p,g];exact Bx.new _ _ _
 have S:Below w3.heap.size w3 w4:=by rw[p];exact(qaa _ _).alloc (qab _) _
 have r:Below w2.heap.size w2 w4:=h.trans (S.mono h.size);have H:=zI T;have n:=zI r;have F:=zI (q.out.trans (r.mono q.out.size));have E:=zI p;have D:=zI g;have C:=zI (Jt9 5 Py.webB Py.webNm Py.webTs w4 (by omega) (by decide) Py.web_read (N.out.below F.out).m);clear h p g T S r;go_upto_region 4 with fail
 rw[<- E.out,<- D.out];go_wp2_with fail
 refine C.out.mono ?_;rintro e w5 ⟨gs,rfl,R,f⟩;have A:=zI (show StAt w5 (made w4 w5) gs 5 webT from R);have u:=n.out.trans (f.mono n.out.size);have b:=zI (q.out.trans (u.mono q.out.size));have hJ:=zI (J1p w5 (I.out.below u) i.out.lay (N.out.below b.out) i.out.svd Jaz.withFs);have Ha:=zI (i.out.below u);have y:=H.out.below f;have x0:=y.at_ 0 (v:= .int .u64 1) rfl;have x1:=y.at_ 1 (v:= (0:Int)) rfl;have x2:=y.at_ 2 (v:= (0:Int)) rfl;have x3:=y.at_ 3 (v:= (0:Int)) rfl;have x4:=y.at_ 4 (v:= (0:Int)) rfl;have x5:=y.at_ 5 (v:= false) rfl;clear R u f y;go_wp2_with fail
 refine hJ.out.mono ?_;rintro e w6 ⟨rfl,a⟩;have Z:=a.alloc a.size (.cells #[.string ⟨#[97]⟩] 9);have o:=Z.alloc Z.size (.cells #[(0:Int),(5:Int)] 3);have Hb:=zI ((Strs.new w6 9 w6.heap.size 1 [⟨#[97]⟩] #[.string ⟨#[97]⟩] rfl rfl rfl (by unfold maxLen;omega) (fun s hs=>by rw[qaz.1 hs];show(1:Nat)<=maxLen;unfold maxLen;omega)).alloc (.cells #[(0:Int),(5:Int)] 3));have Hc:=zI (Ints.new (w6.alloc (.cells #[.string ⟨#[97]⟩] 9)) 3 .i64 (w6.heap.size+1) 2 [0,5] #[(0:Int),(5:Int)] (by simp) rfl rfl (by unfold maxLen;omega) (fun z hz=>by simp at hz;rcases hz with rfl | rfl<;>rfl))
 have Hd:=zI (J8p (c:=1) (d:=2) _ (Ha.out.below o) (A.out.below o) Jaz Hb.out Hc.out (fun _ _ _=>rfl));have P:=zI (b.out.trans (o.mono b.out.size));clear a Z o x0 x1 x2 x3 x4 x5;go_wp2_with fail
 refine Hd.out.mono ?_;rintro e w9 ⟨rfl,O⟩;have He:=zI (P.out.trans (O.mono P.out.size));clear O;go_wp2_with fail
 go_ret;exact⟨rfl,He.out⟩
theorem Jw3:(Tryz.prog.info? 29).map (fun i=>(i.zero,i.size,i.bytes))=some (some (.int .i64 0),1,8):=by kernel_rfl
theorem Jw4:(Tryz.prog.info? 4).map (fun i=>(i.zero,i.size,i.bytes))=some (some (.bool false),1,1):=by kernel_rfl
theorem J1r(W:World):(Instr.makeSlice 118 (1:Int) (1:Int)).run Tryz.prog W= .ok (.slice (some ⟨W.heap.size,0,none⟩) 1 1) (W.alloc (.cells #[(0:Int)] 29)):=by
 obtain⟨i0,w,z,y,x⟩:=qbx Jw3;rw[run_make W 118 29 i0 (0:Int) Tryz.underlying118 w z .i64 .i64 1 1 (by omega) (by omega) (by rw[x];omega) (by omega)]
 have e:madeCells (Value.int .i64 0).cells ((1:Int).toNat*i0.size)=#[.int .i64 0]:=by
  rw[y];apply Array.ext';rw[show(Value.int .i64 0).cells=#[.int .i64 0] from rfl,toList_madeCells_one]
  simp
 rw[e];rfl
theorem Jw5(W:World):(Instr.makeSlice 187 (1:Int) (1:Int)).run Tryz.prog W= .ok (.slice (some ⟨W.heap.size,0,none⟩) 1 1) (W.alloc (.cells #[false] 4)):=by
 obtain⟨i0,w,z,y,x⟩:=qbx Jw4;rw[run_make W 187 4 i0 false Tryz.underlying187 w z .i64 .i64 1 1 (by omega) (by omega) (by rw[x];omega) (by omega)]
 have e:madeCells (Value.bool false).cells ((1:Int).toNat*i0.size)=#[.bool false]:=by
  rw[y];apply Array.ext';rw[show(Value.bool false).cells=#[.bool false] from rfl,toList_madeCells_one]
  simp
 rw[e];rfl
structure GrS (w wr:World) (F:Nat ->Prop) (ge gd N C B D R gen q:Nat) (ps:List Pm) (t t0:Tv) (rs:List (List UInt8)) (l:List Smp) (gv gu:Nat) (r:Int):Prop where
 ex:∃G f' t' rs',Jav wr G ge gd N C B D R gen q ps f' t' rs' t0/\(∀x,G x ->grow F w wr x)/\ ¬ G gv/\ ¬ G gu/\Chg F w wr/\Joo R t l r t' rs rs'
 bv:Bx wr gv 29 #[(r:Int)]
 bu:Bx wr gu 4 #[(decide (r=0))]
section
variable {F:Nat ->Prop} {ge gd N C B D R gen q:Nat} {ps:List Pm} {f:Int ->Option ByteArray} {t t0:Tv} {rs:List (List UInt8)}
theorem J1s(l:List Smp)(A:Option Addr)(n c b:Nat)(w:World)(h:Jav w F ge gd N C B D R gen q ps f t rs t0)(hs:w.cell? ⟨b,0,none⟩=some (.slice A n c))(hl:Smps w A n l)(hA:1<=l.length ->AIn (fun b=> ¬ F b) A)(hfew:∀i,i<t.tabs.length ->(t.tab i).length<=9000)(hfit:(layAll gen 0 rs).length+2<=16)(hq:q<=700000):
  Cs 51 #[ge,.slice (some ⟨b,0,none⟩) 1 1] w fun e w'=>∃v r f' t' rs',e= .returned (.slice (some ⟨v,0,none⟩) 1 1)/\w'.cell? ⟨v,0,none⟩=some (.int .i64 r)/\Jav w' (grow F w w') ge gd N C B D R gen (q+4) ps f' t' rs' t0/\Chg F w w'/\Joo R t l r t' rs rs':=by
 have Km:=J1r;have Kn:=Jw5;obtain⟨gv,g⟩:=exE w.heap.size;obtain⟨gu,a⟩:=exE (gv+1);obtain⟨w3,Z⟩:=exE ((w.alloc (.cells #[(0:Int)] 29)).alloc (.cells #[false] 4));have Y:Below w.heap.size w w3:=by rw[Z];exact((qaa _ _).alloc (qab _) _).alloc (by simp) _
 have Hi:Bx w3 gv 29 #[(0:Int)]:=by rw[Z,g];exact(Bx.new w _ _).alloc _
 have Hj:Bx w3 gu 4 #[false]:=by
  rw[Z,a,g];have:=Bx.new (w.alloc (.cells #[(0:Int)] 29)) 4 #[false]
  rwa [show(w.alloc (.cells #[(0:Int)] 29)).heap.size=w.heap.size+1 from by simp] at this
 have Ha:=h.below Y;have H9:=zI (Ju3 w3 Ha);have Ka:=zI (J8k l A n c w3 Ha (hl.below Y) hA hfew hfit hq);have V:b<w.heap.size:=by have:=qbh w _ hs;exact this
 have Kb:=zI ((Y.cell (p:=⟨b,0,none⟩) V).trans hs);have J:=zI h.ins;have Kc:=zI h.size;have Kd:=zI h.low;have Hk:=zI Y;have Hl:=zI Hi;have Hm:=zI Hj;have Ke:=zI Z;have Hn:=zI g;have Ho:=zI a;have Ko:=zI V;clear h hs hl hA hfew hfit Y Hi Hj Ha Z g a V;go_enter Tryz.func51,Tryz.ntmps51;go_upto_region 4 with fail
 rw[<- Ke.out,<- Hn.out,<- Ho.out];go_wp2_with fail
 go_loopw [7,8,20] (fun s7 s8 j wr=>(s7= .bool false/\s8= .bool false/\j= .int .i64 0/\w3=wr)\/(s7= .bool false/\j= .int .i64 1/\∃r,s8= .bool (decide (r=0))/\GrS w wr F ge gd N C B D R gen (q+4) ps t t0 rs l gv gu r)) (fun _ _ j _=>1 - (intOf j).toNat)
 case atStart=>exact .inl ⟨rfl,rfl,rfl,rfl⟩
 case round=>
  rcases hrel with⟨rfl,rfl,rfl,U⟩ | ⟨rfl,rfl,r,rfl,hG⟩
  · subst U
    have x0:=Kb.out;go_wp2_with fail
    refine H9.out.mono ?_;rintro e w4 ⟨rfl,U⟩;subst U;go_wp2_with fail
    refine Ka.out.mono ?_;rintro e w4 ⟨r,f',t',rs',rfl,Hp,T,u⟩;have Kp:=Hk.out.size;have Kk:=Hl.out.lt;have Kl:=Hm.out.lt;have g:=Hn.out;have a:=Ho.out;have Hb: ¬ F gv:=fun K=>by have:=J.out gv K;omega
    have k: ¬ F gu:=fun K=>by have:=J.out gu K;omega
    have S:=Hl.out.chg T Hb;have Hq:=Hm.out.chg T k;have Hc:=S.set 0 (r:Int);have I:Chg (fun x=>x=gv) w4 (w4.setCell ⟨gv,0,none⟩ (r:Int)):=Chg.set _ _ _ rfl;have P:=Hq.chg I (show ¬ gu=gv from by omega);have Hr:=P.set 0 (decide (r=0));have H:Chg (fun x=>x=gu) (w4.setCell ⟨gv,0,none⟩ (r:Int)) ((w4.setCell ⟨gv,0,none⟩ (r:Int)).setCell ⟨gu,0,none⟩ (decide (r=0))):=Chg.set _ _ _ rfl;have Hs:=Hc.chg H (show ¬ gv=gu from by omega)
    have s:∀x,x=gv\/x=gu -> ¬ grow F w3 w4 x:=fun x z K=>by
     rcases K with K | K
     · rcases z with rfl | rfl
       · exact Hb K
       · exact k K
     · have:=K.1;omega
    have Ht:=Hp.far I (fun x z=>s x (.inl z));have Hu:=Ht.far H (fun x z=>s x (.inr z));have o:Chg F w ((w4.setCell ⟨gv,0,none⟩ (r:Int)).setCell ⟨gu,0,none⟩ (decide (r=0))):=(((Chg.of_below Hk.out).trans T (fun _ h=> .inl h)).trans I (fun x h=> .inr (by omega))).trans H (fun x h=> .inr (by omega));have Kq:=T.size
    have Hv:=zI (show GrS w ((w4.setCell ⟨gv,0,none⟩ (r:Int)).setCell ⟨gu,0,none⟩ (decide (r=0))) F ge gd N C B D R gen (q+4) ps t t0 rs l gv gu r from
     ⟨⟨_,f',t',rs',Hu,fun x z=>z.elim .inl (fun y=> .inr ⟨by have:=y.1;omega,by have:=y.2;simp;omega⟩),s gv (.inl rfl),s gu (.inr rfl),o,u⟩,Hs,Hr⟩)
    have y0:=S.at_ 0 (v:= (0:Int)) rfl;have f0:=S.free 0;have z0:=Hc.at_ 0 (v:= (r:Int)) rfl;have u0:=P.at_ 0 (v:= false) rfl;have g0:=P.free 0;have Kr:=S.lt;have Ks:=P.lt;clear Hp T u S Hq Hc I P Hr H Hs s Ht Hu o Hb k g a;by_cases hr:r=0
    · subst hr
      go_wp2_with fail
      go_roundw
      case rel=>exact .inr ⟨rfl,rfl,0,rfl,Hv.out⟩
      case measure=>simp[intOf]
    · have d1:(r==0)=false:=by rw[qaw];exact hr
      have d2:decide (r=0)=false:=qae hr;go_wp2_with fail
      go_roundw
      case rel=>exact .inr ⟨rfl,rfl,r,by rw[d2],by have:=Hv.out;rw[d2] at this;exact this⟩
      case measure=>simp[intOf]
  · obtain⟨⟨G,f',t',rs',hE,m,s,k,o,u⟩,d,O⟩:=hG
    have v0:=d.at_ 0 (v:= (r:Int)) rfl;have u0:=O.at_ 0 (v:= (decide (r=0))) rfl;obtain⟨wo,Hd⟩:=exE wr;rw[<- Hd] at hE m o d O v0 u0 ⊢
    have E:=zI (show ∀ (W:World) x,grow F w W x ->gB<=x from fun W x z=>by
     rcases z with z | z
     · exact Kd.out x z
     · have:=Kc.out;have h1:=z.1;omega)
    by_cases hr:r=0
    · subst hr
      have Hw:=zI (Ju3 wo hE);have Kf:=zI (Jrf wo hE (by omega));have He:=zI d;have Kg:=zI O;have Kh:=zI s;have Ki:=zI k;have Hx:=zI m;have M:=zI o;have Hf:=zI u;clear hE m s k o u d O Hd v0 u0;go_wp2_with fail
      refine Hw.out.mono ?_;rintro e w5 ⟨rfl,U⟩;subst U;go_wp2_with fail
      refine Kf.out.mono ?_;rintro e w7 ⟨rfl,Hg,L⟩;have Hy:=L.size
      have Hh:=zI (Hg.mono (G:=grow F w w7) (fun x z=>by
       rcases z with z | z
       · exact Jcg (Hx.out x z) Hy
       · exact .inr (Jcz z M.out.size)) (E.out w7) (fun x z=>by
       rcases z with z | z
       · have:=J.out x z;have:=M.out.size;omega
       · exact z.2))
      have Kj:=zI (M.out.trans L (fun x z=>(Hx.out x z).imp (fun y=>y) (fun y=>y.1)));have Hz:=zI (Ju3 w7 Hg);have H0:=zI (He.out.chg L Kh.out);have hJ:=Kg.out.chg L Ki.out;have u0:=hJ.at_ 0 (v:= true) rfl;clear Hg L hJ Hy;go_wp2_with fail
      go_loopw [68] (fun j wr=>(j= .int .i64 0\/j= .int .i64 1)/\w7=wr) (fun j _=>1 - (intOf j).toNat)
      case atStart=>exact⟨.inl rfl,rfl⟩
      case round=>
       obtain⟨hj,U⟩:=hrel;subst U;rcases hj with rfl | rfl
       · go_wp2_with fail
         refine Hz.out.mono ?_;rintro e w8 ⟨rfl,U⟩;subst U;go_wp2_with fail
         go_roundw
         case rel=>exact⟨.inr rfl,trivial⟩
         case measure=>simp[intOf]
       · go_wp2_with fail
         go_ret;exact⟨gv,0,f',t',rs',rfl,H0.out.at_ 0 rfl,Hh.out,Kj.out,Hf.out⟩
    · have d1:(r==0)=false:=by rw[qaw];exact hr
      have d2:decide (r=0)=false:=qae hr
      have Hh:=zI (hE.mono (G:=grow F w wo) m (E.out wo) (fun x z=>by
       rcases z with z | z
       · have:=J.out x z;have:=o.size;omega
       · exact z.2))
      have He:=zI d;have M:=zI o;have Hf:=zI u;rw[d2] at u0;clear hE m s k o u d O Hd v0;go_wp2_with fail
      go_loopw [68] (fun j wr=>(j= .int .i64 0\/j= .int .i64 1)/\wo=wr) (fun j _=>1 - (intOf j).toNat)
      case atStart=>exact⟨.inl rfl,rfl⟩
      case round=>
       obtain⟨hj,U⟩:=hrel;subst U;rcases hj with rfl | rfl
       · go_wp2_with fail
         go_roundw
         case rel=>exact⟨.inr rfl,trivial⟩
         case measure=>simp[intOf]
       · go_wp2_with fail
         go_ret;exact⟨gv,r,f',t',rs',rfl,He.out.at_ 0 rfl,Hh.out,M.out,Hf.out⟩
theorem J8r(l:List Smp)(A:Option Addr)(n c:Nat)(w:World)(h:Jav w F ge gd N C B D R gen q ps f t rs t0)(hl:Smps w A n l)(hA:1<=l.length ->AIn (fun b=> ¬ F b) A)(hfew:∀i,i<t.tabs.length ->(t.tab i).length<=9000)(hfit:(layAll gen 0 rs).length+2<=16)(hq:q<=700000):
  Cs 17 #[ge,.slice A n c] w fun e w'=>∃r f' t' rs',e= .returned (r:Int)/\Jav w' (grow F w w') ge gd N C B D R gen (q+4) ps f' t' rs' t0/\Chg F w w'/\Joo R t l r t' rs rs':=by
 have u:=(qaa w.heap.size w).alloc (qab _) (.cells #[.slice A n c] 22);have Z:=zI (J1s l A n c w.heap.size _ (h.below u) ((Bx.new w 22 #[.slice A n c]).at_ 0 rfl) (hl.below u) hA hfew hfit hq);have g:=zI u;have s:=zI h.low;have p:=zI h.size;have o:=zI h.ins;clear h hl hA hfew hfit u;go_enter Tryz.func17,Tryz.ntmps17;go_wp2_with fail
 refine Z.out.mono ?_;rintro e w1 ⟨v,r,f',t',rs',rfl,Y,d,m,y⟩;have a:=g.out.size;have k:=m.size
 have W:=zI (d.mono (G:=grow F w w1) (fun x z=>Jfm z a) (fun x z=>by
  rcases z with z | z
  · exact s.out x z
  · have:=p.out;have T:=z.1;omega) (fun x z=>by
  rcases z with z | z
  · have:=o.out x z;omega
  · exact z.2))
 have V:=zI ((Chg.of_below g.out).trans m (fun _ h=> .inl h));have j:=zI y;have U:=qbh w1 _ Y;clear d m y a k;go_wp2_with fail
 go_ret;exact⟨r,f',t',rs',rfl,W.out,V.out,j.out⟩
end
noncomputable def Tv.did (t:Tv) (o:Ov):Tv:=if o.kind=1 then t.put o.l else t.tick o.n
structure May (R:Nat) (t:Tv) (o:Ov):Prop where
 ok:o.Ok
 good:t.Good
 fs:t.r.fs.length≠1
 put:o.kind=1 ->(∀s∈o.l,t.r.Gets s)/\(t.put o.l).Few/\(t.put o.l).need<=(R:Int)
 tick:o.kind=2 ->t.r.now+o.n<=1099511627776
def Jf7 (R:Nat):Tv ->List Ov ->Prop
 | _,[]=>True
 | t,o::os=>May R t o/\Jf7 R (t.did o) os
noncomputable def Tv.didN (t:Tv) (os:List Ov) (k:Nat):Tv:=(os.take k).foldl Tv.did t
theorem Tv.didN_next(t:Tv){os:List Ov}{k:Nat}(hk:k<os.length):t.didN os (k+1)=(t.didN os k).did os[k]:=by
 unfold Tv.didN;rw[<- List.take_append_getElem hk,qb0];rfl
theorem Jf7.at_{R:Nat}:∀ {t:Tv} {os:List Ov} {k:Nat} (hk:k<os.length),Jf7 R t os ->May R (t.didN os k) os[k]
 | _,_::_,0,_,h=>h.1
 | _,_::os,k+1,hk,h=>Jf7.at_ (os:=os) (k:=k) (by simpa using hk) h.2
theorem Jf7.ok{R:Nat}:∀ {t:Tv} {os:List Ov},Jf7 R t os ->∀o∈os,o.Ok
 | _,[],_,_,ho=>by cases ho
 | _,a::os,h,o,ho=>by
   rcases qa6.1 ho with e | e
   · rw[e];exact h.1.ok
   · exact Jf7.ok h.2 o e
theorem J8s{t:Tv}(h:t.Good){fl:List Int}(hf:∀i,(t.withFs fl).r.from_ i=t.r.from_ i):(t.withFs fl).Good:=
 ⟨h.ck,h.nm,h.len,h.now,fun i hi=>by rw[hf];exact h.flo i hi,h.ord,fun i hi r hr=>by rw[hf];exact h.fine i hi r hr,h.few⟩
theorem J9u{t:Tv}{fl:List Int}(hf:∀i,(t.withFs fl).r.from_ i=t.r.from_ i)(i x:Int):(t.withFs fl).r.has i x=t.r.has i x:=by
 unfold Rch.has Rch.fromI;rw[hf];rfl
theorem Ju6{t:Tv}{fl:List Int}(hf:∀i,(t.withFs fl).r.from_ i=t.r.from_ i)(s:Smp):∀k,(t.withFs fl).putTo s k=(t.putTo s k).withFs fl
 | 0=>rfl
 | k+1=>by
   simp only[Tv.putTo];rw[J9u hf,Ju6 hf s k];split<;>rfl
theorem J5z{fl:List Int}:∀ {l:List Smp} {t:Tv},(∀i,(t.withFs fl).r.from_ i=t.r.from_ i) ->(t.withFs fl).put l=(t.put l).withFs fl
 | [],_,_=>rfl
 | s::l,t,hf=>by
   show((t.withFs fl).put1 s).put l=((t.put1 s).put l).withFs fl;have e:(t.withFs fl).put1 s=(t.put1 s).withFs fl:=Ju6 hf s _;have z:(t.put1 s).r=t.r:=t.putTo_r s _;rw[e];refine J5z fun i=> ?_;show Rch.from_ ⟨(t.put1 s).r.now,(t.put1 s).r.nm,(t.put1 s).r.ts,fl⟩ i=(t.put1 s).r.from_ i;rw[z];exact hf i
theorem J8t(t:Tv)(fl:List Int):(t.withFs fl).need=t.need:=Jd0 t fl _
theorem J1t{k:Int}(h:0<=k/\k<=1099511627776)(i:Nat):((webN k).withFs webT.r.all).r.from_ i=(webN k).r.from_ i:=by
 have y:=(Jk9 h).flo
 match i with
 | 0=>
   have z:=(y 0 (show(0:Nat)<2 from by omega)).1;show max (Jc5 k 100 10) (webT.r.from_ 0)=Jc5 k 100 10;have z:0<=Jc5 k 100 10:=z;rw[Jk8];omega
 | 1=>
   have z:=(y 1 (show(1:Nat)<2 from by omega)).1;show max (Jc5 k 1000 10) (webT.r.from_ 1)=Jc5 k 1000 10;have z:0<=Jc5 k 1000 10:=z;rw[Jk8];omega
 | k+2=>rfl
theorem J1u(k:Int):(webT.withFs webT.r.all).tick k=(webN k).withFs webT.r.all:=by
 show(⟨⟨0+k,_,_,_⟩,_⟩:Tv)=_;rw[Int.zero_add];rfl
theorem J8u{R:Nat}{k:Int}(h:0<=k/\k<=1099511627776){l:List Smp}(hl:(webN k).r.putErr l=0)(hok:∀s∈l,s.Ok)(hn:((webN k).put l).need<=(R:Int)):Jf7 R (webT.withFs webT.r.all) [⟨2,k,[]⟩,⟨1,0,l⟩]:=by
 obtain⟨v,u,t⟩:=Rch.putErr_zero hok hl;have x:=J1t h;have y:=J8s (Jk9 h) x
 have z:∀s∈l,((webN k).withFs webT.r.all).r.Gets s:=fun s hs=>by
  have:=t s hs;exact⟨this.ok,this.nm,this.tm,by rw[x];exact this.from_⟩
 have w:(((webN k).withFs webT.r.all).put l).Good:=Jom (N:=0) y z (fun i _=>by show((webN k).tab i).length<=0;rw[Jif];exact qab _) (by omega);refine⟨⟨⟨(fun s hs=>by cases hs),.inr ⟨rfl,h.1,h.2,rfl⟩⟩,Jaz.withFs,by decide,fun e=>(by omega:(2:Nat)≠1).elim e,fun _=> ?_⟩,?_,trivial⟩
 · show 0+k<=_
   omega
 · have e:(webT.withFs webT.r.all).did ⟨2,k,[]⟩=(webN k).withFs webT.r.all:=J1u k
   rw[e];refine⟨⟨fun s hs=>Gets.fine (z s hs) h.2,.inl ⟨rfl,rfl,v,u⟩⟩,y,by show webT.r.all.length≠1;decide,fun _=>⟨z,w.rare,?_⟩,fun e=>(by omega:(1:Nat)≠2).elim e⟩;rw[J5z x,J8t];exact hn
theorem J5d{R:Nat}{k:Int}(h:0<=k/\k<=1099511627776):Jf7 R (webT.withFs webT.r.all) [⟨2,k,[]⟩]:=
 ⟨⟨⟨(fun s hs=>by cases hs),.inr ⟨rfl,h.1,h.2,rfl⟩⟩,Jaz.withFs,by decide,fun e=>(by omega:(2:Nat)≠1).elim e,fun _=>by show 0+k<=_;omega⟩,trivial⟩
theorem J1v{F:Nat ->Prop}{g room:Nat}{t:Tv}(o:Ov)(A:Option Addr)(n c:Nat)(w:World)(h:StAt w F g room t)(hm:May room t o)(hl:Smps w A n o.l):
  Cs 145 #[g,opV o A n c] w fun e w'=>e= .returned (0:Int)/\StAt w' (grow F w w') g room (t.did o)/\Chg F w w':=by
 have r:=hm.good.n;have q:=hl.len
 have back:∀ {W w':World},Below w.heap.size w W ->StAt w' (grow F W w') g room (t.did o) ->Chg F W w' ->StAt w' (grow F w w') g room (t.did o)/\Chg F w w':=fun hb u v=>
  ⟨u.sub (fun x hx=>Jfm hx hb.size) (h.ins.grow (qat hb.size v.size)),(Chg.of_below hb).trans v (fun _ hx=> .inl hx)⟩
 rcases hm.ok.kind with z | z
 · have s:=hm.put z.1
   have e:t.did o=t.put o.l:=qa2 z.1;refine(J1h o A n c g w (R:=fun e w'=>e= .returned (0:Int)/\StAt w' (grow F w w') g room (t.did o)/\Chg F w w') z.1 (fun W hW=> ?_)).mono (fun e w' y=>by obtain⟨_,_,y⟩:=y;exact y);refine(Jua W (h.below hW) r.1 (by omega) (hl.below hW) (by omega) (fun i hi=>by have:=hm.good.few i hi;omega) s.1 (fun i hi=>by have:=hm.good.ev hi;omega) s.2.1 s.2.2).mono ?_;rintro e' w' ⟨rfl,u,v⟩;exact⟨0,rfl,rfl,back hW (by rw[e];exact u) v⟩
 · have e:t.did o=t.tick o.n:=qav (by omega)
   refine(Jwv o A n c g w (R:=fun e w'=>e= .returned (0:Int)/\StAt w' (grow F w w') g room (t.did o)/\Chg F w w') z.1 (fun W hW=> ?_)).mono (fun e w' y=>by obtain⟨_,_,y⟩:=y;exact y);refine(Jqw o.n W (h.below hW) r.1 ⟨z.2.1,hm.tick z.1⟩ hm.good.now hm.fs (fun i hi=>by have:=hm.good.few i hi;omega)).mono ?_;rintro e' w' ⟨rfl,u,v⟩;exact⟨0,rfl,rfl,back hW (by rw[e];exact u) v⟩
theorem J1w{F:Nat ->Prop}{g room:Nat}{t:Tv}(o:Ov)(A:Option Addr)(n c b off cap:Nat)(w:World)(h:StAt w F g room t)(hm:May room t o)(hl:Smps w A n o.l)(hb:b<w.heap.size)(x0:w.cell? ⟨b,off,none⟩=some (.int .i64 (o.kind:Int)))(x1:w.cell? ⟨b,off+1,none⟩=some (.int .i64 o.n))(x2:w.cell? ⟨b,off+2,none⟩=some (.slice A n c)):
  Cs 74 #[g,.slice (some ⟨b,off,none⟩) 1 cap] w fun e w'=>e= .returned (.tuple #[(1:Int),(0:Int)])/\StAt w' (grow F w w') g room (t.did o)/\Chg F w w':=
 Jww o A n c g b off cap w (R:=fun w'=>StAt w' (grow F w w') g room (t.did o)/\Chg F w w') hm.ok hl hb x0 x1 x2 (fun W hW=>(J1v o A n c W (h.below hW) hm (hl.below hW)).mono (fun _ _ hh=>
  ⟨hh.1,hh.2.1.sub (fun _ hx=>Jfm hx hW.size) (h.ins.grow (qat hW.size hh.2.2.size)),(Chg.of_below hW).trans hh.2.2 (fun _ hx=> .inl hx)⟩))
structure SndR (w w7 wr:World) (FS:Nat ->Prop) (gs R:Nat) (t:Tv) (A:Option Addr) (n:Nat) (ss:List ByteArray):Prop where
 st:∃G,StAt wr G gs R t/\∀x,G x ->FS x\/w7.heap.size<=x
 row:Strs wr A n ss
 bel:Below w.heap.size w wr
 up:w7.heap.size<=wr.heap.size
theorem SndR.next{w w7 wr w1 w2:World}{FS G:Nat ->Prop}{gs R n B0:Nat}{t t':Tv}{A:Option Addr}{ss:List ByteArray}(h:SndR w w7 wr FS gs R t A n ss)(hG:∀x,G x ->FS x\/w7.heap.size<=x)(hb:Below wr.heap.size wr w1)(hs:StAt w2 (grow G w1 w2) gs R t')(hc:Chg G w1 w2)(hF:∀x,FS x ->w.heap.size<=x/\x<B0)(hA:AIn (fun b=>B0<=b/\b<w7.heap.size) A)(hw7:w.heap.size<=w7.heap.size):SndR w w7 w2 FS gs R t' A n ss:=by
 have v:=hb.size;have u:=hc.size;have s:=h.up;refine⟨⟨_,hs,fun x z=> ?_⟩,?_,?_,by omega⟩
 · rcases z with z | z
   · exact hG x z
   · have:=z.1;exact .inr (by omega)
 · have y:=h.row.below hb
   refine⟨y.sl.chg hc (fun a e hg=> ?_),y.len,y.n_le,y.size⟩;have:=hA a e;rcases hG _ hg with z | z
   · have:=(hF _ z).2;omega
   · omega
 · refine hc.below (fun x z=> ?_) (h.bel.trans (hb.mono h.bel.size)).size |>fun k=>(h.bel.trans (hb.mono h.bel.size)).trans k
   rcases hG x z with z | z
   · exact(hF x z).1
   · omega
theorem J5e{F:Nat ->Prop}{gd N C B D R gen q:Nat}{f:Int ->Option ByteArray}{t0:Tv}(os:List Ov)(w:World)(hD:DsAt w F gd N q f)(hL:Jd3 N C B D R)(hG:Glo w)(hS:J1c f N C B D R gen t0 (os.map opB))(hg:t0.Good)(hm:Jf7 R t0 os)(hn9:os.length<=1000):
  Cs 24 #[gd] w (RB w (0:Int)):=by
 have E:=zI (Jop w hD hL hG hS);have Kb:=zI hg;have Kc:=zI hm;have Hi:=zI (fun W F' g' (hT:Jae W F' g' t0)=>Jh3 W hT hg.n.1 hg.rare);obtain⟨nd,Hj⟩:=exE t0.need;obtain⟨n,hn⟩:=exE os.length;obtain⟨ss,h⟩:=exE (os.map fun o=>strOf (opB o));have Hk:=zI (show ss.length=n from by rw[h,hn,qa0])
 have Kd:=zI (show ∀s∈ss,s.size<=maxLen from fun s hs=>by
  rw[h] at hs;obtain⟨o,ho,rfl⟩:=qbm.1 hs;have:=Jog (hm.ok o ho);rw[Jab];unfold maxLen;omega)
 rw[<- Hj] at E Hi;rw[qa0,qch,show(os.map ((fun l=>Value.string (strOf l))∘opB))=ss.map Value.string from by rw[h,qch];rfl,<- hn] at E;have Ke:=zI h;have HN:=zI hn;have hn9:n<=1000:=by rw[hn];exact hn9
 clear hD hL hG hS hg hm Hj h hn;go_enter Tryz.func24,Tryz.ntmps24;go_wp2_with fail
 refine E.out.mono ?_;rintro e w2 ⟨gx,gs,mp,bk,i,nP,FB,FS,pf,us,lv,v,B0,rfl,ho,hv,Hl,hJ,Ha,Hm⟩;obtain⟨A,c,rfl,Hn⟩:=Jap ho;have HA:=zI (show AIn (fun b=>B0<=b/\b<w2.heap.size) A from fun a e=>by subst e;exact ho.lt _ rfl);have HF:=zI (show ∀x,FS x ->w.heap.size<=x/\x<B0 from fun x hx=>⟨(Ha.st x hx).1,Ha.row.2 x hx⟩);have Kf:=zI (show Strs w2 A n ss from⟨Hn,Hk.out,by unfold maxLen;omega,Kd.out⟩);have Hb:=Jlb (n:=n) (c:=c) (A:=A) w2 hv hJ Kb.out;rw[show repV gen (lv.getD []).length n t0.size=repI gen nd n t0.size from by unfold repV repI;rw[Hl]] at Hb;have Ho:=zI Hb;have Kg:=zI hJ;have Hp:=zI Hm;obtain⟨sz,Hq⟩:=exE t0.size;rw[<- Hq] at Ho;clear ho hv Hl hJ Hm Hb Hq Hn Ha;go_wp2_with fail
 refine Ho.out.mono ?_;rintro e w3 ⟨rfl,g⟩;have Hr:=zI (Hp.out.trans (g.mono Hp.out.size));have d:=zI (Kg.out.below g);have Hs:=zI (Kf.out.below g);have Kh:=zI g.size;have Ki:=zI (Je9 w3 d.out);clear g;go_wp2_with fail
 refine Ki.out.mono ?_;rintro e w4 ⟨rfl,hw⟩;subst hw;obtain⟨w5,V⟩:=exE (w3.alloc (.cells #[.int .u64 (gen:Int),(nd:Int),(0:Int),(n:Int),(sz:Int),false] 57));obtain⟨g7,Hc⟩:=exE w3.heap.size;have U:Below w3.heap.size w3 w5:=by rw[V];exact(qaa _ _).alloc (qab _) _
 have Ht:Bx w5 g7 57 #[.int .u64 (gen:Int),(nd:Int),(0:Int),(n:Int),(sz:Int),false]:=by rw[V,Hc];exact Bx.new _ _ _
 have Kj:=zI V;have Kk:=zI Hc;have p:=zI Ht;have O:=zI U;have T:=zI (Hr.out.trans (U.mono Hr.out.size));have Kl:=zI (fun W (hW:Below w5.heap.size w5 W)=>Jer W ((d.out.below U).below hW));clear V Hc U Ht;go_upto_region 5 with fail
 rw[<- Kj.out,<- Kk.out]
 go_region_held3 (fun w'=>w'.cell? ⟨g7,1,none⟩=some (.int .i64 nd)/\w'.cell? ⟨g7,2,none⟩=some (.int .i64 0)/\Below w5.heap.size w5 w')
  (first
    | exact⟨p.out.drew.at_ 1 rfl,p.out.drew.at_ 2 rfl,(qaa _ _).drew⟩
    | exact⟨(p.out.below y).at_ 1 rfl,(p.out.below y).at_ 2 rfl,y⟩
    | exact⟨(p.out.below m).at_ 1 rfl,(p.out.below m).at_ 2 rfl,m⟩)
  (first
    | (go_at_call 31
       go_split_ands;refine(Kl.out _ (by assumption)).mono ?_;rintro e w6 ⟨g6,rfl,Hu,Hv⟩;have m:Below w5.heap.size w5 w6:=Below.trans (by assumption) (Hv.mono (Below.size (by assumption))))
    | (go_at_call 32
       refine(Hi.out _ _ _ Hu).mono ?_;rintro e w7 ⟨rfl,Hw⟩;have y:Below w5.heap.size w5 w7:=m.trans (Hw.mono m.size))
    | (go_at_call 72
       refine(Jrh _).mono ?_;rintro e w8 ⟨rfl,rfl⟩)
    | (go_at_call 60
       refine(Jeq _).mono ?_;rintro e w9 ⟨rfl,rfl⟩))
 have u:Below w3.heap.size w3 w7:=O.out.trans (y.mono O.out.size);have Km:=zI (show SndR w w7 w7 FS gs R (t0.didN os 0) A n ss from⟨⟨FS,d.out.below u,fun x hx=> .inl hx⟩,Hs.out.below u,T.out.trans (y.mono T.out.size),qab _⟩);have Kn:=zI (show w.heap.size<=w7.heap.size from(T.out.trans (y.mono T.out.size)).size)
 have Ko:=zI (show AIn (fun b=>B0<=b/\b<w7.heap.size) A from fun a e=>by
  have h1:=HA.out a e;have h2:=Kh.out;have h3:=u.size;exact⟨h1.1,by omega⟩)
 clear m y Hu Hv Hw u;go_wp2_with fail
 go_loopw [53] (fun j wr=>∃k:Nat,k<=n/\j= .int .i64 (k:Int)/\SndR w w7 wr FS gs R (t0.didN os k) A n ss) (fun j _=>n - (intOf j).toNat)
 case atStart=>exact⟨0,qaq _,rfl,Km.out⟩
 case round=>
  obtain⟨k,hk,rfl,hR⟩:=hrel;by_cases Hx:k<n
  · have K:k<os.length:=by rw[<- HN.out];exact Hx
    have K2:k<ss.length:=by rw[Hk.out];exact Hx
    obtain⟨b1,o1,Kp,_,s1⟩:=hR.row.get K2;have Hd:=Kc.out.at_ K;have Kq:=zI (t0.didN_next K);have Hy:ss[k]=strOf (opB os[k]):=(by simp only[Ke.out,qbt]);rw[Hy] at s1;obtain⟨G,hG,Hz⟩:=hR.st;have Kr:=zI Hz;have HR:=zI hR;generalize os[k]'K=o at*;generalize t0.didN os k=t at*;have Ks:=zI Hd;have Kt:=zI hG;have H0:=zI (fun W=>J1g o W Hd.ok);obtain⟨S,hS⟩:=exE (strOf (opB o));rw[<- hS] at s1 H0;clear hR Hd hG Hz hS Hy;subst Kp;go_wp2_with fail
    refine(H0.out _).mono ?_;rintro e w8 ⟨A8,c8,rfl,He,_,Hf⟩;obtain⟨L,hL⟩:=exE o.l.length;rw[<- hL] at He ⊢;obtain⟨w9,Z⟩:=exE (w8.alloc (.cells #[(o.kind:Int),(o.n:Int),.slice A8 L c8] 115));obtain⟨g9,Hg⟩:=exE w8.heap.size;have Hh:Below wr.heap.size wr w9:=by rw[Z];exact Hf.alloc Hf.size _
    have P:Bx w9 g9 115 #[(o.kind:Int),(o.n:Int),.slice A8 L c8]:=by rw[Z,Hg];exact Bx.new _ _ _
    have H9:Smps w9 A8 L o.l:=by rw[Z];exact He.below ((qaa _ _).alloc (qab _) _)
    obtain⟨w10,r⟩:=exE (w9.alloc (.cells #[(o.kind:Int),(o.n:Int),.slice A8 L c8] 115));have Y:Below w9.heap.size w9 w10:=by rw[r];exact(qaa _ _).alloc (qab _) _
    have z:Bx w10 w9.heap.size 115 #[(o.kind:Int),(o.n:Int),.slice A8 L c8]:=by rw[r];exact Bx.new _ _ _
    have M:=zI (Hh.trans (Y.mono Hh.size));have Ku:=zI (J1w (t:=t) o A8 L c8 w9.heap.size 0 1 w10 (Kt.out.below M.out) Ks.out (H9.below Y) z.lt (z.at_ 0 rfl) (z.at_ 1 rfl) (z.at_ 2 rfl));have Kv:=zI Z;have Kw:=zI Hg;have Ka:=zI r;have y0:=P.at_ 0 (v:= (o.kind:Int)) rfl;have y1:=P.at_ 1 (v:= (o.n:Int)) rfl;have y2:=P.at_ 2 (v:= .slice A8 L c8) rfl;clear He Hf hL Z Hg Hh P H9 r Y z s1;go_upto_region 13 with fail
    rw[<- Kv.out,<- Kw.out];go_wp2_with fail
    rw[<- Ka.out];refine Ku.out.mono ?_;rintro e w11 ⟨rfl,J,I⟩;have H:=zI (HR.out.next Kr.out M.out J I HF.out Ko.out Kn.out);rw[<- Kq.out] at H;clear J I y0 y1 y2;go_wp2_with fail
    go_roundw
    case rel=>exact⟨k+1,by omega,by go_num,H.out⟩
    case measure=>simp[intOf];omega
  · have HE:=zI hR.bel
    clear hR;go_wp2_with fail
    go_ret;exact⟨rfl,HE.out⟩
theorem Jle(k:Int):webT.tick k=webN k:=by
 show(⟨⟨0+k,_,_,_⟩,_⟩:Tv)=_;rw[Int.zero_add];rfl
theorem J1x(k:Int):(webN k).need=0:=rfl
theorem Jw6(gen:Nat)(s:List UInt8):(layAll gen 0 [s]).length=wlN s.length:=by
 have:=Jfe gen s [] 0;simp only[qcf] at this;rw[this];simp[layAll,Jdy]
abbrev repA (n:Nat):Array Value:=#[.int .u64 1,(0:Int),(0:Int),(n:Int),(0:Int),false]
theorem Jlf{w:World}{v:Value}(x:Option Addr×Nat×Nat×List Smp)(hx:J0l w v x)(k:Int)(hG:Glo w):
  Cs 5 #[v,(k:Int)] w fun e w'=>e= .returned true/\Below w.heap.size w w':=by
 obtain⟨A,n,c,l⟩:=x;obtain⟨rfl,hl⟩:=hx;dsimp only at hl;have HG:=zI hG;have Km:=zI hG.low;have HL:=zI hl;have Kn:=zI (J4h 8 A n c l w hl (by omega));have Ko:=zI (fun W (hW:Below w.heap.size w W)=>Jm1 W (hG.below hW));have I:=zI (Jm1 w hG);have Kp:=zI (J5y 90 w (by omega) (by omega));clear hl hG;dsimp only;go_enter Tryz.func5,Tryz.ntmps5;go_wp2_with fail
 refine Kn.out.mono ?_;rintro e w0 ⟨bb,rfl,d,hw⟩;subst hw;rcases(show bb=false\/(bb=true/\k<0)\/(bb=true/\0<=k/\1000<k)\/(bb=true/\0<=k/\k<=1000) from by cases bb<;>simp<;>omega) with rfl | ⟨rfl,h1⟩ | ⟨rfl,h1,h2⟩ | ⟨rfl,h1,h2⟩
 · clear d
   go_wp2_with fail
   refine I.out.mono ?_;rintro e w1 ⟨rfl,z⟩;have q:=zI z;clear z;go_wp2_with fail
   go_ret;exact⟨rfl,q.out⟩
 · clear d
   have d1:decide (k<0)=true:=qan h1;go_wp2_with fail
   refine I.out.mono ?_;rintro e w1 ⟨rfl,z⟩;have q:=zI z;clear z;go_wp2_with fail
   go_ret;exact⟨rfl,q.out⟩
 · clear d
   have d1:decide (k<0)=false:=qae (by omega);have d2:decide (1000<k)=true:=qan h2;go_wp2_with fail
   refine I.out.mono ?_;rintro e w1 ⟨rfl,z⟩;have q:=zI z;clear z;go_wp2_with fail
   go_ret;exact⟨rfl,q.out⟩
 · have KG:=zI (show n<=8 from by have:=d rfl;omega)
   have HK:=zI (show 0<=k/\k<=1099511627776 from by omega);have d1:decide (k<0)=false:=qae (by omega);have d2:decide (1000<k)=false:=qae (by omega);clear d;go_wp2_with fail
   refine Kp.out.mono ?_;rintro e w1 ⟨gd,rfl,Hj,z⟩;have q:=zI z;have Kq:=zI (J1q w1 Hj (HG.out.below z) (fun x hx=>by have:=hx.1;have:=Km.out;omega) (by omega));clear Hj z h1 h2 d1 d2;go_wp2_with fail
   refine Kq.out.mono ?_;rintro e w2 ⟨ge,G,f2,rfl,Hk,Hl,Hm⟩;have Hn:=q.out.trans (Hm.below (B:=w.heap.size) (fun x hx=>hx.1) q.out.size)
   have Ho:=zI (show ∀x,G x ->w.heap.size<=x from fun x hx=>by
    rcases Hl x hx with h | h
    · exact h.1
    · have:=h.1;have:=q.out.size;omega)
   have Hp:=zI (J49 k w2 Hk ⟨HK.out.1,by show(0:Int)+k<=1099511627776;have:=HK.out.2;omega⟩ (by decide) (by rw[Jle];exact Jk9 HK.out) (by rw[Jle,J1x];decide) (by decide) (by omega));rw[Jle] at Hp;have H:=zI Hn;clear Hk Hl Hm Hn;go_wp2_with fail
   refine Hp.out.mono ?_;rintro e w3 ⟨rfl,f3,F,Hq⟩;have E:=H.out.trans (Hq.below (B:=w.heap.size) (fun x hx=>Ho.out x hx) H.out.size)
   have D:=zI (show ∀x,grow G w2 w3 x ->w.heap.size<=x from fun x hx=>by
    rcases hx with h | h
    · exact Ho.out x h
    · have:=h.1;have:=H.out.size;omega)
   obtain⟨G3,Hr⟩:=exE (grow G w2 w3);rw[<- Hr] at F D
   have Hs:=zI (J8r (c:=c) l A n w3 F (HL.out.below E) (fun h1 a e hf=>by
    have h2:=D.out _ hf;obtain⟨b,off,e',hb,_⟩:=HL.out.get (j:=0) h1;rw[e'] at e;cases e
    exact absurd hb (by show ¬ b<w.heap.size;have:w.heap.size<=b:=h2;omega)) (fun i hi=>by rw[Jif];exact qaq _) (by rw[qcf,Jw6,Ju2];decide) (by omega))
   rw[qcf] at Hs;have Ht:=zI E;clear F Hq E Hr;go_wp2_with fail
   refine Hs.out.mono ?_;rintro e w4 ⟨r,f4,t4,rs4,rfl,p,Hu,O⟩;have s:=Ht.out.trans (Hu.below (B:=w.heap.size) (fun x hx=>D.out x hx) Ht.out.size)
   obtain⟨os,Kr,N,Hv⟩:∃os:List Ov,rs4=os.map opB/\Jf7 26 (webT.withFs webT.r.all) os/\os.length<=1000:=by
    rcases O with⟨_,h0,Ks,_,e⟩ | ⟨_,_,e,_⟩
    · exact⟨[⟨2,k,[]⟩,⟨1,0,l⟩],e,J8u HK.out h0 HL.out.ok Ks,by simp⟩
    · exact⟨[⟨2,k,[]⟩],e,J5d HK.out,by simp⟩
   subst Kr;obtain⟨nl,C⟩:=exE os.length;obtain⟨FD4,hJ,_⟩:=p.disk
   have Hw:=zI (fun W (hW:Below w4.heap.size w4 W)=>show Cs 23 #[gd] W (RB W (.tuple #[.agg (repA nl),(0:Int)])) from by
    have:=look_ok W (hJ.below hW) p.lay (HG.out.below (s.trans (hW.mono s.size))) p.svd Jaz.withFs;rw[Jlc,Jld,qa0,<- C] at this;exact this)
   have Hx:=zI (fun W (hW:Below w4.heap.size w4 W)=>J1k W (hJ.below hW) (by omega))
   have Kt:=zI (fun W F' g' q' (hW:Below w4.heap.size w4 W) (hd:DsAt W F' g' 90 q' f4)=>show Cs 23 #[g'] W (RB W (.tuple #[.agg (repA nl),(0:Int)])) from by
    have:=look_ok W hd p.lay (HG.out.below (s.trans (hW.mono s.size))) p.svd Jaz.withFs;rw[Jlc,Jld,qa0,<- C] at this;exact this)
   have Ku:=zI (fun W F' g' q' (hW:Below w4.heap.size w4 W) (hd:DsAt W F' g' 90 q' f4)=>J5e os W hd p.lay (HG.out.below (s.trans (hW.mono s.size))) p.svd Jaz.withFs N Hv);have Kv:=zI (fun W (hW:Below w4.heap.size w4 W)=>Ko.out W (s.trans (hW.mono s.size)));have Hy:=zI s;clear p Hu O s C hJ N Hv;have Hz:=zI (Hw.out w4 (qaa _ _));go_wp2_with fail
   refine Hz.out.mono ?_;rintro e w5 ⟨rfl,Ha⟩;obtain⟨w6,S⟩:=exE (w5.alloc (.cells (repA nl) 57));obtain⟨g6,Hb⟩:=exE w5.heap.size;have H0:Bx w6 g6 57 (repA nl):=by rw[S,Hb];exact Bx.new _ _ _
   have Hc:Below w4.heap.size w4 w6:=by rw[S];exact Ha.trans (((qaa _ _).alloc (qab _) _).mono Ha.size)
   have Kw:=zI H0;have Kx:=zI S;have Ky:=zI Hb;have H9:=zI Hc;have Ka:=zI (Hw.out w6 Hc);clear Ha S Hb H0 Hc;go_upto_region 9 with fail
   rw[<- Kx.out,<- Ky.out];go_wp2_with fail
   refine Ka.out.mono ?_;rintro e w7 ⟨rfl,Hd⟩;obtain⟨w8,R⟩:=exE (w7.alloc (.cells (repA nl) 57));obtain⟨g8,He⟩:=exE w7.heap.size;have Kb:Bx w8 g8 57 (repA nl):=by rw[R,He];exact Bx.new _ _ _
   have Hf:Below w6.heap.size w6 w8:=by rw[R];exact Hd.trans (((qaa _ _).alloc (qab _) _).mono Hd.size)
   have Kz:=zI Kb;have KC:=zI (Kw.out.below Hf);have KD:=zI R;have KE:=zI He;have Z:=zI (H9.out.trans (Hf.mono H9.out.size));have Kc:=zI (Hx.out w8 Z.out);clear Hd R He Kb Hf;go_upto_region 10 with fail
   rw[<- KD.out,<- KE.out];go_wp2_with fail
   refine Kc.out.mono ?_;rintro e w9 ⟨g9,rfl,Kd,Hg⟩;have Ke:=zI (Kt.out w9 _ g9 _ (Z.out.trans (Hg.mono Z.out.size)) Kd);have P:=zI Hg;clear Kd Hg;go_wp2_with fail
   refine Ke.out.mono ?_;rintro e w10 ⟨rfl,Y⟩;obtain⟨w11,g⟩:=exE (w10.alloc (.cells (repA nl) 57));obtain⟨g11,V⟩:=exE w10.heap.size;have M:Bx w11 g11 57 (repA nl):=by rw[g,V];exact Bx.new _ _ _
   have f:Below w8.heap.size w8 w11:=by rw[g];exact(P.out.trans (Y.mono P.out.size)).alloc (P.out.trans (Y.mono P.out.size)).size _
   have Kf:=zI M;have Kg:=zI (Kz.out.below f);have Kh:=zI (KC.out.below f);have Ki:=zI g;have Kj:=zI V;have U:=zI (Z.out.trans (f.mono Z.out.size));have Kk:=zI (Kv.out w11 U.out);clear Y g V M f;go_upto_region 11 with fail
   rw[<- Ki.out,<- Kj.out];go_wp2_with fail
   refine Kk.out.mono ?_;rintro e w12 ⟨rfl,o⟩;have y:=Kf.out.below o;have u:=Kg.out.below o;have t:=Kh.out.below o;have m:=zI (U.out.trans (o.mono U.out.size));have Hh:=zI (Hx.out w12 m.out);have p0:=y.at_ 0 (v:= .int .u64 1) rfl;have p1:=y.at_ 1 (v:= (0:Int)) rfl;have p2:=y.at_ 2 (v:= (0:Int)) rfl;have p3:=y.at_ 3 (v:= (nl:Int)) rfl;have p4:=y.at_ 4 (v:= (0:Int)) rfl;have p5:=y.at_ 5 (v:= false) rfl;have q0:=u.at_ 0 (v:= .int .u64 1) rfl;have q1:=u.at_ 1 (v:= (0:Int)) rfl;have q2:=u.at_ 2 (v:= (0:Int)) rfl;have q3:=u.at_ 3 (v:= (nl:Int)) rfl;have q4:=u.at_ 4 (v:= (0:Int)) rfl;have q5:=u.at_ 5 (v:= false) rfl;have r0:=t.at_ 0 (v:= .int .u64 1) rfl;have r1:=t.at_ 1 (v:= (0:Int)) rfl;have r2:=t.at_ 2 (v:= (0:Int)) rfl;have r3:=t.at_ 3 (v:= (nl:Int)) rfl;have r4:=t.at_ 4 (v:= (0:Int)) rfl;have r5:=t.at_ 5 (v:= false) rfl;clear o y u t;go_wp2_with fail
   refine Hh.out.mono ?_;rintro e w13 ⟨g13,rfl,L,T⟩;have Hi:=zI (Ku.out w13 _ g13 _ (m.out.trans (T.mono m.out.size)) L);have K:=zI (m.out.trans (T.mono m.out.size));clear L T p0 p1 p2 p3 p4 p5 q0 q1 q2 q3 q4 q5 r0 r1 r2 r3 r4 r5;go_wp2_with fail
   refine Hi.out.mono ?_;rintro e w14 ⟨rfl,J⟩;have Kl:=zI (Hy.out.trans ((K.out.trans (J.mono K.out.size)).mono Hy.out.size));clear J;go_wp2_with fail
   go_ret;exact⟨rfl,Kl.out⟩
end Go.Proofs.YtglmhddbhhcjdaaGreatDoor
