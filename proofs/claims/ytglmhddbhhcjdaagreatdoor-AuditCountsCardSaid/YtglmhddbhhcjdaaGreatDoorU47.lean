/-
  Several texts in one: Engn, Alau, Engq, AuditCounts.
-/
import Derived.Test.YtglmhddbhhcjdaaGreatDoorU45
import Derived.Test.YtglmhddbhhcjdaaGreatDoorU46
set_option maxRecDepth 100000
set_option linter.unusedSimpArgs false
set_option maxHeartbeats 4000000
namespace Go.Proofs.YtglmhddbhhcjdaaGreatDoor
open Go.RowKit
theorem J09{F:Nat ->Prop}{g room:Nat}{t:Tv}(w:World)(h:StAt w F g room t):
  Calls Tryz.prog 86 #[.pointer (some ⟨g,0,none⟩)] w fun e w'=>∃g',e= .returned (.pointer (some ⟨g',0,none⟩))/\StAt w' (made w w') g' room t/\Below w.heap.size w w':=by
 obtain⟨gt,FT,y,p,_,_⟩:=h.ex;have o:=(qaa w.heap.size w).drew;have m:=zI (Jgj w.drew (p.below o));have n:=zI y;have l:=zI h.room;have x0:=y.at_ 0 (v:= .int .i64 (room:Int)) rfl;have x1:=y.at_ 1 (v:= .pointer (some ⟨gt,0,none⟩)) rfl;have x2:=y.at_ 2 (v:= .pointer none) rfl;have y0:=y.drew.at_ 0 (v:= .int .i64 (room:Int)) rfl;have y1:=y.drew.at_ 1 (v:= .pointer (some ⟨gt,0,none⟩)) rfl;have y2:=y.drew.at_ 2 (v:= .pointer none) rfl;clear h y p o;go_enter Tryz.func86,Tryz.ntmps86;go_upto_region 3 with fail
 go_region_with (first
  | (go_at_call 57
     refine m.out.mono ?_;rintro e w1 ⟨gt',rfl,u,s⟩;have z:Below w.heap.size w w1:=(qaa w.heap.size w).drew.trans (by simpa using s);have z0:=(n.out.below z).at_ 0 (v:= .int .i64 (room:Int)) rfl;have z2:=(n.out.below z).at_ 2 (v:= .pointer none) rfl;have q:=zI (StAt.boxed (w:=w) (room:=room) (u.sub (fun x hx=>⟨by have:=hx.1;simpa using this,hx.2⟩) Ins.made) z.size l.out);have r:=zI z;clear u s z)
  | (go_at_call 138
     refine(Jkz _).mono ?_;rintro e w2 ⟨rfl,k⟩;subst k))
 all_goals
  go_wp2_with fail
  go_ret;exact⟨w1.heap.size,rfl,q.out,r.out.alloc r.out.size _⟩
section
variable {F:Nat ->Prop} {ge gd N C B D R gen q:Nat} {ps:List Pm} {f:Int ->Option ByteArray} {t t0:Tv} {rs:List (List UInt8)}
theorem J1a(w:World)(h:Jat w F ge gd N C B D R gen q ps f t rs t0):
  Calls Tryz.prog 30 #[.pointer (some ⟨ge,0,none⟩)] w fun e w'=>∃g',e= .returned (.pointer (some ⟨g',0,none⟩))/\StAt w' (made w w') g' R t/\Below w.heap.size w w':=by
 obtain⟨FB,FD,FT,gs,gl,mp,bk,id,z,_⟩:=h.ex;have x14:=z.bx.at_ 14 (v:= .pointer (some ⟨gs,0,none⟩)) rfl;have u:=zI (J09 w z.st);clear h z;go_enter Tryz.func30,Tryz.ntmps30;go_wp2_with fail
 refine u.out.mono ?_;rintro e w1 ⟨g',rfl,y,x⟩;have s:=zI y;have r:=zI x;clear y x x14;go_wp2_with fail
 go_ret;exact⟨g',rfl,s.out,r.out⟩
end
theorem Jq8(f:Int ->Option ByteArray):Jc4 (Jk3 f 18) 2 1 []:=Jc4.zero fun q hq=>Jqe f 18 (2+q) (by omega)
theorem J72{w3 w4 w:World}{F FB FD FT:Nat ->Prop}{gx gd gs mp bk gl q:Nat}{v:SvV}{f:Int ->Option ByteArray}(hs:Jit w4 FB FD gx 90 10 28 38 26 gd 1 mp bk q gl v [] webT)(hv:SvG 38 90 ⟨0,[],Jk3 f 18,[]⟩ (Jak webT webT.tabs.length) v)(hst:StAt w4 FT gs 26 webT)(hb3:w.heap.size<=w3.heap.size)(hz:w3.heap.size<=w4.heap.size)(hF:∀x,F x ->x<w.heap.size)(hFT:∀x,FT x ->w.heap.size<=x/\x<w3.heap.size)(hFB:∀x,FB x ->w3.heap.size<=x)(hFD:∀x,FD x ->grow F w3 w4 x)(hmp:w3.heap.size<=mp)(hgl:w3.heap.size<=gl/\ ¬ FB gl/\ ¬ FD gl)(hlow:∀x,F x ->gB<=x)(hG:gB<=w.heap.size):
  ∃G f',Jat (w4.alloc (.cells (Jof 90 10 28 38 26 gd 1 v.id mp bk gl gs) 71)) G w4.heap.size gd 90 10 28 38 26 1 q [] f' webT [] (webT.withFs webT.r.all)/\(∀x,G x ->grow F w (w4.alloc (.cells (Jof 90 10 28 38 26 gd 1 v.id mp bk gl gs) 71)) x):=by
 obtain⟨w5,t⟩:∃w5,w5=w4.alloc (.cells (Jof 90 10 28 38 26 gd 1 v.id mp bk gl gs) 71):=⟨_,rfl⟩;have z:Below w4.heap.size w4 w5:=by rw[t];exact(qaa _ _).alloc (qab _) _
 have p:Bx w5 w4.heap.size 71 (Jof 90 10 28 38 26 gd 1 v.id mp bk gl gs):=by rw[t];exact Bx.new _ _ _
 have i:w5.heap.size=w4.heap.size+1:=by rw[t];simp
 rw[<- t]
 have g:v.id=0:=by
  have m:=hv.id;have l:(Jak webT webT.tabs.length).length=v.es.length:=hv.es.symm;rw[Jld hv] at l;have e:v.id=0+(Jak webT webT.tabs.length).length:=m;rw[e,l];rfl
 have y:=hs.st.book.ins;have s:=hs.st.disk.ins;have k:=hs.st.map.lt;have j:=hs.log.lt
 have d:EngS w5 FB FD FT w4.heap.size gs gl 90 10 28 38 26 gd 1 v.id mp bk q (layAll 1 0 []).length [] (savF 28 90 webT 1 v) webT []:=
  ⟨⟨⟨⟨_,#[.pointer (some ⟨gs,0,none⟩),.bool true],by simpa[Jof] using p⟩⟩,hs.st.map.below z,hs.st.book.below z,hs.st.disk.below z,hs.st.dj,⟨fun h=>Nat.lt_irrefl _ (y _ h),fun h=>Nat.lt_irrefl _ (s _ h)⟩,hs.st.nmp⟩,p,hst.below z,hs.log.below z,
   fun x hx=>by
    have m:=hFT x hx;refine⟨⟨fun h=>by have:=hFB x h;omega,fun h=> ?_,by omega,by omega⟩,by omega,by omega⟩;rcases hFD x h with h | h
    · have:=hF x h;omega
    · have:=h.1;omega,⟨hgl.2.1,hgl.2.2,by omega⟩⟩
 have u:∀x,(engF FB FD FT w4.heap.size gl x\/x=mp) ->grow F w w5 x:=by
  rintro x ((h | h | h | h | h) | h)
  · exact .inr ⟨by omega,by omega⟩
  · exact .inr ⟨by omega,by omega⟩
  · exact .inr ⟨by have:=hFB x h;omega,by have:=y x h;omega⟩
  · rcases hFD x h with h | h
    · exact .inl h
    · exact .inr ⟨by have:=h.1;omega,by have:=h.2;omega⟩
  · exact .inr ⟨by have:=hFT x h;omega,by have:=hFT x h;omega⟩
  · exact .inr ⟨by omega,by omega⟩
 have o:Jc4 (savF 28 90 webT 1 v) 2 1 []:=(Jq8 f).far fun q hq=>by
  show setS (putN _ _ _ _) _ _ _=_;unfold setS;rw[if_neg (by omega),Jdk _ _ _ _ _ (.inl (by unfold Jb9;split<;>omega)),hv.low _ (by omega)]
 have n:=J5e (gen:=0) J4s Jbk (by rw[Jf3];decide) hv (by show(0:Nat)<1000000;omega) (by omega) ⟨none,Jqe f 18 0 (by omega),fun x hx=>by cases hx⟩ (Jq8 f);refine⟨_,_,⟨⟨_,_,_,_,_,_,_,_,d,fun x hx=> .inl hx,by omega,.inr rfl⟩,o,⟨_,_,_,_,_,_,_,_,n,?_⟩,Jbk,by rw[Jf3];decide,J4s,by omega,fun x hx=> ?_,fun x hx=> ?_⟩,u⟩
 · rw[hv.wide]
   have:=Jbk.needW;show _=Jbl (webT.withFs webT.r.all) (webT.withFs webT.r.all).tabs.length;rw[Jct];exact this
 · rcases u x hx with h | h
   · exact hlow x h
   · have:=h.1;omega
 · rcases u x hx with h | h
   · have:=hF x h;omega
   · exact h.2
theorem J1b{F:Nat ->Prop}{gd q:Nat}{f:Int ->Option ByteArray}(w:World)(hD:DsAt w F gd 90 q f)(hG:Glo w)(hlow:∀x,F x ->gB<=x)(hq:q<=300000):
  Calls Tryz.prog 10 #[.pointer (some ⟨gd,0,none⟩),.string Py.webB] w fun e w'=>∃ge G f',e= .returned (.tuple #[.pointer (some ⟨ge,0,none⟩),.int .i64 0])/\Jat w' G ge gd 90 10 28 38 26 1 (q+10100) [] f' webT [] (webT.withFs webT.r.all)/\(∀x,G x ->grow F w w' x)/\Chg F w w':=by
 have N:=zI hD.blocks;have M:=zI (Jn9 90 w (by omega) (by omega));have C:=zI hD;have B:=zI hG;have i:=zI hlow;have L:=zI hG.low;clear hD hG hlow;go_enter Tryz.func10,Tryz.ntmps10;go_wp2_with fail
 refine N.out.mono ?_;rintro e w0 ⟨rfl,A⟩;subst A;go_wp2_with fail
 refine M.out.mono ?_;rintro e w1 ⟨rfl,o⟩;obtain⟨w2,y⟩:∃w2,w2=w1.alloc (.cells #[.int .i64 90,.int .i64 2,.int .i64 18,.int .i64 28,.int .i64 10,.int .i64 38,.int .i64 26] 64):=⟨_,rfl⟩;have n:=Bx.new w1 64 #[.int .i64 90,.int .i64 2,.int .i64 18,.int .i64 28,.int .i64 10,.int .i64 38,.int .i64 26];rw[<- y] at n;have l:Below w.heap.size w w2:=by rw[y];exact o.alloc o.size _
 have x6:=n.at_ 6 (v:= .int .i64 26) rfl;have K:=zI y;have u:=zI l;have J:=zI (Jtx 26 Py.webB Py.webNm Py.webTs w2 (by omega) (by decide) Py.web_read (B.out.below l).m);clear n y o l;go_upto_region 6 with fail
 rw[<- K.out];go_wp2_with fail
 refine J.out.mono ?_;rintro e w3 ⟨gs,rfl,h,g⟩;have I:∀x,F x ->x<w.heap.size:=C.out.ins;have t:=zI (u.out.trans (g.mono u.out.size));have d:=zI (show StAt w3 (made w2 w3) gs 26 webT from h);have k:=u.out.size
 have H:=zI (J0h w3 (C.out.below t.out) J4s d.out (fun x hx hd=>by have O:=hx.1;have h2:=I x hd;omega) Jbk.want Jbk.wv (B.out.below t.out) (fun x hx=>i.out x hx)
  (fun v c=>c.fits J4s Jbk (by rw[Jf3];decide) (by show(0:Nat)<1000000;omega) (by omega)) (by rw[Jwi];omega) (by omega))
 have b:=zI I;clear h g I k x6;go_wp2_with fail
 refine H.out.mono ?_;rintro e w4 ⟨gx,FB,FD,mp,bk,gl,ps,v,q',rfl,c,a,s,E,Z,Y,p,W,V⟩;have U:v.es=[]:=Jld c;have D:ps=[]:=by have O:=s.es;rw[U] at O;simpa using O
 subst D;have k:=u.out.size;have T:=t.out.size;have S:=d.out.chg p (fun x hx hd=>by have O:=hx.1;have h2:=b.out x hd;omega);have R:=zI (J72 (w:=w) (F:=F) s c S T p.size b.out (fun x hx=>⟨by have:=hx.1;omega,hx.2⟩) Z Y W V i.out L.out);have HC:=zI ((Chg.of_below t.out).trans p (fun x hx=> .inl hx));have HQ:=zI a;obtain⟨vi,j⟩:∃vi,vi=v.id:=⟨_,rfl⟩;have z:Bo w4 gx (Jdg 90 10 28 38 26 ⟨gd,0,none⟩ 1 vi mp bk (some ⟨gl,0,none⟩) 0):=by rw[j];exact s.st.box
 rw[<- j] at R;have c0:=z.at_ 0 (v:= .int .i64 90) rfl;have c1:=z.at_ 1 (v:= .int .i64 2) rfl;have c2:=z.at_ 2 (v:= .int .i64 18) rfl;have c3:=z.at_ 3 (v:= .int .i64 28) rfl;have c4:=z.at_ 4 (v:= .int .i64 10) rfl;have c5:=z.at_ 5 (v:= .int .i64 38) rfl;have c6:=z.at_ 6 (v:= .int .i64 26) rfl;have c7:=z.at_ 7 (v:= .pointer (some ⟨gd,0,none⟩)) rfl;have c8:=z.at_ 8 (v:= .int .u64 1) rfl;have c9:=z.at_ 9 (v:= .int .u64 (vi:Int)) rfl;have c10:=z.at_ 10 (v:= .map (some mp)) rfl;have c11:=z.at_ 11 (v:= .pointer (some ⟨bk,0,none⟩)) rfl;have c12:=z.at_ 12 (v:= .pointer (some ⟨gl,0,none⟩)) rfl;have c13:=z.at_ 13 (v:= .int .i64 0) rfl;clear U c a s E Z Y p W V S j z k T;go_wp2_with fail
 go_ret2;obtain⟨G,f',hE,P⟩:=R.out;exact⟨w4.heap.size,G,f',rfl,hE.up (by have:=HQ.out;omega),P,HC.out.then_below ((qaa _ _).alloc (qab _) _)⟩
theorem Jle:(webT.withFs webT.r.all).need=0:=by
 show Jbl (webT.withFs webT.r.all) (webT.withFs webT.r.all).tabs.length=0;rw[Jct];exact Jf3
theorem Jlf:(webT.withFs webT.r.all).size=0:=rfl
theorem Jwj(w:World)(hG:Glo w):
  Calls Tryz.prog 9 #[] w fun e w'=>e= .returned (.bool true)/\Below w.heap.size w w':=by
 have N:=zI hG;have M:=zI hG.low;have L:=zI (J5d 90 w (by omega) (by omega));clear hG;go_enter Tryz.func9,Tryz.ntmps9;go_wp2_with fail
 refine L.out.mono ?_;rintro e w1 ⟨gd,rfl,Y,l⟩;have W:=zI l;have K:=zI (J1b w1 Y (N.out.below l) (fun x hx=>by have:=hx.1;have:=M.out;omega) (by omega));clear Y l;go_wp2_with fail
 refine K.out.mono ?_;rintro e w2 ⟨ge,G,f',rfl,t,J,V⟩;have k:=W.out.trans (V.below (B:=w.heap.size) (fun x hx=>hx.1) W.out.size);obtain⟨FD,j,_⟩:=t.disk;have U:=zI (look_ok w2 j t.lay (N.out.below k) t.svd Jbk.withFs);rw[Jle,Jlf] at U;have I:=zI j;have i:=zI t;have q:=zI k;clear t J V k j;go_wp2_with fail
 refine U.out.mono ?_;rintro e w3 ⟨rfl,h⟩;obtain⟨w4,p⟩:∃w4,w4=w3.alloc (.cells #[.int .u64 1,.int .i64 0,.int .i64 0,.int .i64 0,.int .i64 0,.bool false] 57):=⟨_,rfl⟩;obtain⟨g4,g⟩:∃g4,g4=w3.heap.size:=⟨_,rfl⟩;have T:Bx w4 g4 57 #[.int .u64 1,.int .i64 0,.int .i64 0,.int .i64 0,.int .i64 0,.bool false]:=by rw[p,g];exact Bx.new _ _ _
 have S:Below w3.heap.size w3 w4:=by rw[p];exact(qaa _ _).alloc (qab _) _
 have r:Below w2.heap.size w2 w4:=h.trans (S.mono h.size);have H:=zI T;have n:=zI r;have F:=zI (q.out.trans (r.mono q.out.size));have E:=zI p;have D:=zI g;have C:=zI (Jtx 5 Py.webB Py.webNm Py.webTs w4 (by omega) (by decide) Py.web_read (N.out.below F.out).m);clear h p g T S r;go_upto_region 4 with fail
 rw[<- E.out,<- D.out];go_wp2_with fail
 refine C.out.mono ?_;rintro e w5 ⟨gs,rfl,R,f⟩;have A:=zI (show StAt w5 (made w4 w5) gs 5 webT from R);have u:=n.out.trans (f.mono n.out.size);have b:=zI (q.out.trans (u.mono q.out.size));have hJ:=zI (Jq6 w5 (I.out.below u) i.out.lay (N.out.below b.out) i.out.svd Jbk.withFs);have Ha:=zI (i.out.below u);have y:=H.out.below f;have x0:=y.at_ 0 (v:= .int .u64 1) rfl;have x1:=y.at_ 1 (v:= .int .i64 0) rfl;have x2:=y.at_ 2 (v:= .int .i64 0) rfl;have x3:=y.at_ 3 (v:= .int .i64 0) rfl;have x4:=y.at_ 4 (v:= .int .i64 0) rfl;have x5:=y.at_ 5 (v:= .bool false) rfl;clear R u f y;go_wp2_with fail
 refine hJ.out.mono ?_;rintro e w6 ⟨rfl,a⟩;have Z:=a.alloc a.size (.cells #[.string ⟨#[97]⟩] 9);have o:=Z.alloc Z.size (.cells #[.int .i64 0,.int .i64 5] 3);have Hb:=zI ((Strs.new w6 9 w6.heap.size 1 [⟨#[97]⟩] #[.string ⟨#[97]⟩] rfl rfl rfl (by unfold maxLen;omega) (fun s hs=>by rw[qag.1 hs];show(1:Nat)<=maxLen;unfold maxLen;omega)).alloc (.cells #[.int .i64 0,.int .i64 5] 3));have Hc:=zI (Ints.new (w6.alloc (.cells #[.string ⟨#[97]⟩] 9)) 3 .i64 (w6.heap.size+1) 2 [0,5] #[.int .i64 0,.int .i64 5] (by simp) rfl rfl (by unfold maxLen;omega) (fun z hz=>by simp at hz;rcases hz with rfl | rfl<;>rfl))
 have Hd:=zI (J71 (c:=1) (d:=2) _ (Ha.out.below o) (A.out.below o) Jbk Hb.out Hc.out (fun _ _ _=>rfl));have P:=zI (b.out.trans (o.mono b.out.size));clear a Z o x0 x1 x2 x3 x4 x5;go_wp2_with fail
 refine Hd.out.mono ?_;rintro e w9 ⟨rfl,O⟩;have He:=zI (P.out.trans (O.mono P.out.size));clear O;go_wp2_with fail
 go_ret;exact⟨rfl,He.out⟩
theorem Jwk:(Tryz.prog.info? 29).map (fun i=>(i.zero,i.size,i.bytes))=some (some (.int .i64 0),1,8):=by kernel_rfl
theorem Jwl:(Tryz.prog.info? 4).map (fun i=>(i.zero,i.size,i.bytes))=some (some (.bool false),1,1):=by kernel_rfl
theorem J1c(W:World):(Instr.makeSlice 118 (.int .i64 1) (.int .i64 1)).run Tryz.prog W= .ok (.slice (some ⟨W.heap.size,0,none⟩) 1 1) (W.alloc (.cells #[.int .i64 0] 29)):=by
 obtain⟨i0,w,z,y,x⟩:=info_parts Jwk;rw[run_make W 118 29 i0 (.int .i64 0) Tryz.underlying118 w z .i64 .i64 1 1 (by omega) (by omega) (by rw[x];omega) (by omega)]
 have e:madeCells (Value.int .i64 0).cells ((1:Int).toNat*i0.size)=#[.int .i64 0]:=by
  rw[y];apply Array.ext';rw[show(Value.int .i64 0).cells=#[.int .i64 0] from rfl,toList_madeCells_one]
  simp
 rw[e];rfl
theorem Jwm(W:World):(Instr.makeSlice 187 (.int .i64 1) (.int .i64 1)).run Tryz.prog W= .ok (.slice (some ⟨W.heap.size,0,none⟩) 1 1) (W.alloc (.cells #[.bool false] 4)):=by
 obtain⟨i0,w,z,y,x⟩:=info_parts Jwl;rw[run_make W 187 4 i0 (.bool false) Tryz.underlying187 w z .i64 .i64 1 1 (by omega) (by omega) (by rw[x];omega) (by omega)]
 have e:madeCells (Value.bool false).cells ((1:Int).toNat*i0.size)=#[.bool false]:=by
  rw[y];apply Array.ext';rw[show(Value.bool false).cells=#[.bool false] from rfl,toList_madeCells_one]
  simp
 rw[e];rfl
structure GrS (w wr:World) (F:Nat ->Prop) (ge gd N C B D R gen q:Nat) (ps:List Pm) (t t0:Tv) (rs:List (List UInt8)) (l:List Smp) (gv gu:Nat) (r:Int):Prop where
 ex:∃G f' t' rs',Jat wr G ge gd N C B D R gen q ps f' t' rs' t0/\(∀x,G x ->grow F w wr x)/\ ¬ G gv/\ ¬ G gu/\Chg F w wr/\Jlc R t l r t' rs rs'
 bv:Bx wr gv 29 #[.int .i64 r]
 bu:Bx wr gu 4 #[.bool (decide (r=0))]
section
variable {F:Nat ->Prop} {ge gd N C B D R gen q:Nat} {ps:List Pm} {f:Int ->Option ByteArray} {t t0:Tv} {rs:List (List UInt8)}
theorem J1d(l:List Smp)(A:Option Addr)(n c b:Nat)(w:World)(h:Jat w F ge gd N C B D R gen q ps f t rs t0)(hs:w.cell? ⟨b,0,none⟩=some (.slice A n c))(hl:Smps w A n l)(hA:1<=l.length ->AIn (fun b=> ¬ F b) A)(hfew:∀i,i<t.tabs.length ->(t.tab i).length<=9000)(hfit:(layAll gen 0 rs).length+2<=16)(hq:q<=700000):
  Calls Tryz.prog 51 #[.pointer (some ⟨ge,0,none⟩),.slice (some ⟨b,0,none⟩) 1 1] w fun e w'=>∃v r f' t' rs',e= .returned (.slice (some ⟨v,0,none⟩) 1 1)/\w'.cell? ⟨v,0,none⟩=some (.int .i64 r)/\Jat w' (grow F w w') ge gd N C B D R gen (q+4) ps f' t' rs' t0/\Chg F w w'/\Jlc R t l r t' rs rs':=by
 have Km:=J1c;have Kn:=Jwm;obtain⟨gv,g⟩:∃gv,gv=w.heap.size:=⟨_,rfl⟩;obtain⟨gu,a⟩:∃gu,gu=gv+1:=⟨_,rfl⟩;obtain⟨w3,Z⟩:∃w3,w3=(w.alloc (.cells #[.int .i64 0] 29)).alloc (.cells #[.bool false] 4):=⟨_,rfl⟩;have Y:Below w.heap.size w w3:=by rw[Z];exact((qaa _ _).alloc (qab _) _).alloc (by simp) _
 have Hi:Bx w3 gv 29 #[.int .i64 0]:=by rw[Z,g];exact(Bx.new w _ _).alloc _
 have Hj:Bx w3 gu 4 #[.bool false]:=by
  rw[Z,a,g];have:=Bx.new (w.alloc (.cells #[.int .i64 0] 29)) 4 #[.bool false]
  rwa [show(w.alloc (.cells #[.int .i64 0] 29)).heap.size=w.heap.size+1 from by simp] at this
 have Ha:=h.below Y;have H9:=zI (Jq3 w3 Ha);have Ka:=zI (J7v l A n c w3 Ha (hl.below Y) hA hfew hfit hq);have V:b<w.heap.size:=by have:=qa9 w _ hs;exact this
 have Kb:=zI ((Y.cell (p:=⟨b,0,none⟩) V).trans hs);have J:=zI h.ins;have Kc:=zI h.size;have Kd:=zI h.low;have Hk:=zI Y;have Hl:=zI Hi;have Hm:=zI Hj;have Ke:=zI Z;have Hn:=zI g;have Ho:=zI a;have Ko:=zI V;clear h hs hl hA hfew hfit Y Hi Hj Ha Z g a V;go_enter Tryz.func51,Tryz.ntmps51;go_upto_region 4 with fail
 rw[<- Ke.out,<- Hn.out,<- Ho.out];go_wp2_with fail
 go_loopw [7,8,20] (fun s7 s8 j wr=>(s7= .bool false/\s8= .bool false/\j= .int .i64 0/\w3=wr)\/(s7= .bool false/\j= .int .i64 1/\∃r,s8= .bool (decide (r=0))/\GrS w wr F ge gd N C B D R gen (q+4) ps t t0 rs l gv gu r)) (fun _ _ j _=>1 - (intOf j).toNat)
 case atStart=>exact .inl ⟨rfl,rfl,rfl,rfl⟩
 case round=>
  rcases hrel with⟨rfl,rfl,rfl,U⟩ | ⟨rfl,rfl,r,rfl,hG⟩
  · subst U
    have x0:=Kb.out;go_wp2_with fail
    refine H9.out.mono ?_;rintro e w4 ⟨rfl,U⟩;subst U;go_wp2_with fail
    refine Ka.out.mono ?_;rintro e w4 ⟨r,f',t',rs',rfl,Hp,T,u⟩;have Kp:=Hk.out.size;have Kk:=Hl.out.lt;have Kl:=Hm.out.lt;have g:=Hn.out;have a:=Ho.out;have Hb: ¬ F gv:=fun K=>by have:=J.out gv K;omega
    have k: ¬ F gu:=fun K=>by have:=J.out gu K;omega
    have S:=Hl.out.chg T Hb;have Hq:=Hm.out.chg T k;have Hc:=S.set 0 (.int .i64 r);have I:Chg (fun x=>x=gv) w4 (w4.setCell ⟨gv,0,none⟩ (.int .i64 r)):=Chg.set _ _ _ rfl;have P:=Hq.chg I (show ¬ gu=gv from by omega);have Hr:=P.set 0 (.bool (decide (r=0)));have H:Chg (fun x=>x=gu) (w4.setCell ⟨gv,0,none⟩ (.int .i64 r)) ((w4.setCell ⟨gv,0,none⟩ (.int .i64 r)).setCell ⟨gu,0,none⟩ (.bool (decide (r=0)))):=Chg.set _ _ _ rfl;have Hs:=Hc.chg H (show ¬ gv=gu from by omega)
    have s:∀x,x=gv\/x=gu -> ¬ grow F w3 w4 x:=fun x z K=>by
     rcases K with K | K
     · rcases z with rfl | rfl
       · exact Hb K
       · exact k K
     · have:=K.1;omega
    have Ht:=Hp.far I (fun x z=>s x (.inl z));have Hu:=Ht.far H (fun x z=>s x (.inr z));have o:Chg F w ((w4.setCell ⟨gv,0,none⟩ (.int .i64 r)).setCell ⟨gu,0,none⟩ (.bool (decide (r=0)))):=(((Chg.of_below Hk.out).trans T (fun _ h=> .inl h)).trans I (fun x h=> .inr (by omega))).trans H (fun x h=> .inr (by omega));have Kq:=T.size
    have Hv:=zI (show GrS w ((w4.setCell ⟨gv,0,none⟩ (.int .i64 r)).setCell ⟨gu,0,none⟩ (.bool (decide (r=0)))) F ge gd N C B D R gen (q+4) ps t t0 rs l gv gu r from
     ⟨⟨_,f',t',rs',Hu,fun x z=>z.elim .inl (fun y=> .inr ⟨by have:=y.1;omega,by have:=y.2;simp;omega⟩),s gv (.inl rfl),s gu (.inr rfl),o,u⟩,Hs,Hr⟩)
    have y0:=S.at_ 0 (v:= .int .i64 0) rfl;have f0:=S.free 0;have z0:=Hc.at_ 0 (v:= .int .i64 r) rfl;have u0:=P.at_ 0 (v:= .bool false) rfl;have g0:=P.free 0;have Kr:=S.lt;have Ks:=P.lt;clear Hp T u S Hq Hc I P Hr H Hs s Ht Hu o Hb k g a;by_cases hr:r=0
    · subst hr
      go_wp2_with fail
      go_roundw
      case rel=>exact .inr ⟨rfl,rfl,0,rfl,Hv.out⟩
      case measure=>simp[intOf]
    · have d1:(r==0)=false:=by rw[qba];exact hr
      have d2:decide (r=0)=false:=qat hr;go_wp2_with fail
      go_roundw
      case rel=>exact .inr ⟨rfl,rfl,r,by rw[d2],by have:=Hv.out;rw[d2] at this;exact this⟩
      case measure=>simp[intOf]
  · obtain⟨⟨G,f',t',rs',hE,m,s,k,o,u⟩,d,O⟩:=hG
    have v0:=d.at_ 0 (v:= .int .i64 r) rfl;have u0:=O.at_ 0 (v:= .bool (decide (r=0))) rfl;obtain⟨wo,Hd⟩:∃wo:World,wo=wr:=⟨_,rfl⟩;rw[<- Hd] at hE m o d O v0 u0 ⊢
    have E:=zI (show ∀ (W:World) x,grow F w W x ->gB<=x from fun W x z=>by
     rcases z with z | z
     · exact Kd.out x z
     · have:=Kc.out;have h1:=z.1;omega)
    by_cases hr:r=0
    · subst hr
      have Hw:=zI (Jq3 wo hE);have Kf:=zI (Jq2 wo hE (by omega));have He:=zI d;have Kg:=zI O;have Kh:=zI s;have Ki:=zI k;have Hx:=zI m;have M:=zI o;have Hf:=zI u;clear hE m s k o u d O Hd v0 u0;go_wp2_with fail
      refine Hw.out.mono ?_;rintro e w5 ⟨rfl,U⟩;subst U;go_wp2_with fail
      refine Kf.out.mono ?_;rintro e w7 ⟨rfl,Hg,L⟩;have Hy:=L.size
      have Hh:=zI (Hg.mono (G:=grow F w w7) (fun x z=>by
       rcases z with z | z
       · exact Jcd (Hx.out x z) Hy
       · exact .inr (Jcy z M.out.size)) (E.out w7) (fun x z=>by
       rcases z with z | z
       · have:=J.out x z;have:=M.out.size;omega
       · exact z.2))
      have Kj:=zI (M.out.trans L (fun x z=>(Hx.out x z).imp (fun y=>y) (fun y=>y.1)));have Hz:=zI (Jq3 w7 Hg);have H0:=zI (He.out.chg L Kh.out);have hJ:=Kg.out.chg L Ki.out;have u0:=hJ.at_ 0 (v:= .bool true) rfl;clear Hg L hJ Hy;go_wp2_with fail
      go_loopw [68] (fun j wr=>(j= .int .i64 0\/j= .int .i64 1)/\w7=wr) (fun j _=>1 - (intOf j).toNat)
      case atStart=>exact⟨.inl rfl,rfl⟩
      case round=>
       obtain⟨hj,U⟩:=hrel;subst U;rcases hj with rfl | rfl
       · go_wp2_with fail
         refine Hz.out.mono ?_;rintro e w8 ⟨rfl,U⟩;subst U;go_wp2_with fail
         go_roundw
         case rel=>exact⟨.inr rfl,trivial⟩
         case measure=>simp[intOf]
       · go_wp2_with fail
         go_ret;exact⟨gv,0,f',t',rs',rfl,H0.out.at_ 0 rfl,Hh.out,Kj.out,Hf.out⟩
    · have d1:(r==0)=false:=by rw[qba];exact hr
      have d2:decide (r=0)=false:=qat hr
      have Hh:=zI (hE.mono (G:=grow F w wo) m (E.out wo) (fun x z=>by
       rcases z with z | z
       · have:=J.out x z;have:=o.size;omega
       · exact z.2))
      have He:=zI d;have M:=zI o;have Hf:=zI u;rw[d2] at u0;clear hE m s k o u d O Hd v0;go_wp2_with fail
      go_loopw [68] (fun j wr=>(j= .int .i64 0\/j= .int .i64 1)/\wo=wr) (fun j _=>1 - (intOf j).toNat)
      case atStart=>exact⟨.inl rfl,rfl⟩
      case round=>
       obtain⟨hj,U⟩:=hrel;subst U;rcases hj with rfl | rfl
       · go_wp2_with fail
         go_roundw
         case rel=>exact⟨.inr rfl,trivial⟩
         case measure=>simp[intOf]
       · go_wp2_with fail
         go_ret;exact⟨gv,r,f',t',rs',rfl,He.out.at_ 0 rfl,Hh.out,M.out,Hf.out⟩
theorem J73(l:List Smp)(A:Option Addr)(n c:Nat)(w:World)(h:Jat w F ge gd N C B D R gen q ps f t rs t0)(hl:Smps w A n l)(hA:1<=l.length ->AIn (fun b=> ¬ F b) A)(hfew:∀i,i<t.tabs.length ->(t.tab i).length<=9000)(hfit:(layAll gen 0 rs).length+2<=16)(hq:q<=700000):
  Calls Tryz.prog 17 #[.pointer (some ⟨ge,0,none⟩),.slice A n c] w fun e w'=>∃r f' t' rs',e= .returned (.int .i64 r)/\Jat w' (grow F w w') ge gd N C B D R gen (q+4) ps f' t' rs' t0/\Chg F w w'/\Jlc R t l r t' rs rs':=by
 have u:=(qaa w.heap.size w).alloc (qab _) (.cells #[.slice A n c] 22);have Z:=zI (J1d l A n c w.heap.size _ (h.below u) ((Bx.new w 22 #[.slice A n c]).at_ 0 rfl) (hl.below u) hA hfew hfit hq);have g:=zI u;have s:=zI h.low;have p:=zI h.size;have o:=zI h.ins;clear h hl hA hfew hfit u;go_enter Tryz.func17,Tryz.ntmps17;go_wp2_with fail
 refine Z.out.mono ?_;rintro e w1 ⟨v,r,f',t',rs',rfl,Y,d,m,y⟩;have a:=g.out.size;have k:=m.size
 have W:=zI (d.mono (G:=grow F w w1) (fun x z=>Jj4 z a) (fun x z=>by
  rcases z with z | z
  · exact s.out x z
  · have:=p.out;have T:=z.1;omega) (fun x z=>by
  rcases z with z | z
  · have:=o.out x z;omega
  · exact z.2))
 have V:=zI ((Chg.of_below g.out).trans m (fun _ h=> .inl h));have j:=zI y;have U:=qa9 w1 _ Y;clear d m y a k;go_wp2_with fail
 go_ret;exact⟨r,f',t',rs',rfl,W.out,V.out,j.out⟩
end
theorem Jlg(k:Int):webT.tick k=webN k:=by
 show(⟨⟨0+k,_,_,_⟩,_⟩:Tv)=_;rw[Int.zero_add];rfl
theorem J1e(k:Int):(webN k).need=0:=rfl
theorem Jwn(gen:Nat)(s:List UInt8):(layAll gen 0 [s]).length=wlN s.length:=by
 have:=Jfb gen s [] 0;simp only[qah] at this;rw[this];simp[layAll,Jdy]
theorem J74{R:Nat}{t t':Tv}{l:List Smp}{r:Int}{s:List UInt8}{rs':List (List UInt8)}(h:Jlc R t l r t' [s] rs'):1<=rs'.length:=by
 rcases h with⟨_,_,_,_,e⟩ | ⟨_,_,e,_⟩
 · rw[e];simp
 · rw[e];simp
theorem Jic(t:Tv)(fl:List Int):∀k,Jfe (t.withFs fl) k=Jfe t k
 | 0=>rfl
 | k+1=>by unfold Jfe;rw[Jic t fl k];rfl
theorem Ji7{w:World}{v:Value}(x:Option Addr×Nat×Nat×List Smp)(hx:Jz3 w v x)(hG:Glo w):
  Calls Tryz.prog 6 #[v] w fun e w'=>e= .returned (.bool true)/\Below w.heap.size w w':=by
 obtain⟨A,n,c,l⟩:=x;obtain⟨rfl,hl⟩:=hx;dsimp only at hl;have HG:=zI hG;have KD:=zI hG.low;have HL:=zI hl;have KE:=zI (J3x 8 A n c l w hl (by omega));have Ht:=zI (fun W (hW:Below w.heap.size w W)=>Jwj W (hG.below hW));have KG:=zI (J5d 90 w (by omega) (by omega));clear hl hG;dsimp only;go_enter Tryz.func6,Tryz.ntmps6;go_wp2_with fail
 refine KE.out.mono ?_;rintro e w0 ⟨bb,rfl,Ha,hw⟩;subst hw;cases bb with
 | false=>
   have KH:=zI (Ht.out w (qaa _ _));clear Ha;go_wp2_with fail
   refine KH.out.mono ?_;rintro e w1 ⟨rfl,o⟩;have g:=zI o;clear o;go_wp2_with fail
   go_ret;exact⟨rfl,g.out⟩
 | true =>
   have K9:=zI (show n<=8 from by have:=Ha rfl;omega);clear Ha;go_wp2_with fail
   refine KG.out.mono ?_;rintro e w1 ⟨gd,rfl,Hu,o⟩;have g:=zI o;have KI:=zI (J1b w1 Hu (HG.out.below o) (fun x hx=>by have:=hx.1;have:=KD.out;omega) (by omega));clear Hu o;go_wp2_with fail
   refine KI.out.mono ?_;rintro e w2 ⟨ge,G,f2,rfl,Hv,Hw,Hx⟩;have Hy:=g.out.trans (Hx.below (B:=w.heap.size) (fun x hx=>hx.1) g.out.size)
   have Hz:=zI (show ∀x,G x ->w.heap.size<=x from fun x hx=>by
    rcases Hw x hx with h | h
    · exact h.1
    · have:=h.1;have:=g.out.size;omega)
   have H0:=zI (J4p 60 w2 Hv ⟨by omega,by decide⟩ (by decide) (by rw[Jlg];exact J0l ⟨by omega,by omega⟩) (by rw[Jlg,J1e];decide) (by decide) (by omega));rw[Jlg] at H0;have Hb:=zI Hy;clear Hv Hw Hx Hy;go_wp2_with fail
   refine H0.out.mono ?_;rintro e w3 ⟨rfl,f3,m,H9⟩;have Hc:=Hb.out.trans (H9.below (B:=w.heap.size) (fun x hx=>Hz.out x hx) Hb.out.size)
   have T:=zI (show ∀x,grow G w2 w3 x ->w.heap.size<=x from fun x hx=>by
    rcases hx with h | h
    · exact Hz.out x h
    · have:=h.1;have:=Hb.out.size;omega)
   obtain⟨G3,Ka⟩:∃G3,G3=grow G w2 w3:=⟨_,rfl⟩;rw[<- Ka] at m T;obtain⟨FD,y,_⟩:=m.disk;have s:=zI (look_ok w3 y m.lay (HG.out.below Hc) m.svd Jbk.withFs);rw[Jle,Jlf] at s;have Kb:=zI m;have Kc:=zI Hc;clear m H9 Hc y Ka;go_wp2_with fail
   refine s.out.mono ?_;rintro e w4 ⟨rfl,S⟩;obtain⟨w5,R⟩:∃w5,w5=w4.alloc (.cells #[.int .u64 1,.int .i64 0,.int .i64 0,.int .i64 1,.int .i64 0,.bool false] 57):=⟨_,rfl⟩;obtain⟨g5,Hd⟩:∃g5,g5=w4.heap.size:=⟨_,rfl⟩;have Kd:Bx w5 g5 57 #[.int .u64 1,.int .i64 0,.int .i64 0,.int .i64 1,.int .i64 0,.bool false]:=by rw[R,Hd];exact Bx.new _ _ _
   have He:Below w3.heap.size w3 w5:=by rw[R];exact S.trans (((qaa _ _).alloc (qab _) _).mono S.size)
   have Ke:=Kb.out.below He;have Hf:=Kc.out.trans (He.mono Kc.out.size)
   have Kf:=zI (J73 (c:=c) l A n w5 Ke (HL.out.below Hf) (fun h1 a e hf=>by
    have h2:=T.out _ hf;obtain⟨b,off,e',hb,_⟩:=HL.out.get (j:=0) h1;rw[e'] at e;cases e
    exact absurd hb (by show ¬ b<w.heap.size;have:w.heap.size<=b:=h2;omega)) (fun i hi=>by rw[Jjk];exact qak _) (by rw[qah,Jwn,Jun];decide) (by omega))
   rw[qah] at Kf;have KJ:=zI Kd;have KK:=zI R;have KL:=zI Hd;have Kg:=zI (show ¬ G3 g5 from fun hf=>by have:=Kb.out.ins g5 hf;have:=S.size;omega);have Hg:=zI Hf;clear S R Hd Kd He Ke Hf;go_upto_region 8 with fail
   rw[<- KK.out,<- KL.out];go_wp2_with fail
   refine Kf.out.mono ?_;rintro e w6 ⟨r,f6,t6,rs6,rfl,f,Hh,L⟩;have Hi:=Hg.out.trans (Hh.below (B:=w.heap.size) (fun x hx=>T.out x hx) Hg.out.size);obtain⟨nl,Hj⟩:∃nl,nl=rs6.length:=⟨_,rfl⟩;have K8:1<=nl:=by rw[Hj];exact J74 L
   obtain⟨FD6,y,_⟩:=f.disk;have s:=zI (look_ok w6 y f.lay (HG.out.below Hi) f.svd Jbk.withFs);rw[Jle,Jlf,<- Hj] at s;have Kh:=KJ.out.chg Hh Kg.out;have KM:=zI Kh;have Ki:=zI f;have Kj:=zI Hi
   have KN:=zI (show ∀x,grow G3 w5 w6 x ->w.heap.size<=x from fun x hx=>by
    rcases hx with h | h
    · exact T.out x h
    · have:=h.1;have:=Hg.out.size;omega)
   clear f Hh L Hi Hj y Kh;go_wp2_with fail
   refine s.out.mono ?_;rintro e w7 ⟨rfl,P⟩;obtain⟨w8,O⟩:∃w8,w8=w7.alloc (.cells #[.int .u64 1,.int .i64 0,.int .i64 0,.int .i64 (nl:Int),.int .i64 0,.bool false] 57):=⟨_,rfl⟩;obtain⟨g8,Hk⟩:∃g8,g8=w7.heap.size:=⟨_,rfl⟩;have N:Bx w8 g8 57 #[.int .u64 1,.int .i64 0,.int .i64 0,.int .i64 (nl:Int),.int .i64 0,.bool false]:=by rw[O,Hk];exact Bx.new _ _ _
   have M:Below w6.heap.size w6 w8:=by rw[O];exact P.trans (((qaa _ _).alloc (qab _) _).mono P.size)
   have Kk:=Ki.out.below M;have Hl:=Kj.out.trans (M.mono Kj.out.size);have KO:=zI (J4r w8 Kk (HG.out.below Hl) (by omega) (by omega));have Kl:=zI (show ¬ grow G3 w5 w6 g8 from fun hf=>by have:=Ki.out.ins g8 hf;have:=P.size;omega);have d:=KM.out.below M;have a1:=d.at_ 1 (v:= .int .i64 0) rfl;have a3:=d.at_ 3 (v:= .int .i64 1) rfl;have b1:=N.at_ 1 (v:= .int .i64 0) rfl;have b3:=N.at_ 3 (v:= .int .i64 (nl:Int)) rfl;have d1:decide ((nl:Int)<1)=false:=qat (by omega);have KP:=zI N;have KQ:=zI O;have KR:=zI Hk;have Km:=zI Hl;clear P O Hk N M Kk Hl d;go_upto_region 10 with fail
   rw[<- KQ.out,<- KR.out];go_wp2_with fail
   refine KO.out.mono ?_;rintro e w9 ⟨rfl,ps9,f9,k,Hm⟩;have Hn:=Km.out.trans (Hm.below (B:=w.heap.size) (fun x hx=>KN.out x hx) Km.out.size);have q:=k.good;obtain⟨FD9,y,_⟩:=k.disk;have Ho:=look_ok w9 y k.lay (HG.out.below Hn) k.svd q.withFs;obtain⟨nd,Hp⟩:∃nd,nd=t6.need:=⟨_,rfl⟩;obtain⟨sz,Hq⟩:∃sz,sz=t6.size:=⟨_,rfl⟩;rw[show(t6.withFs t6.r.all).need=nd from by rw[Hp];show Jbl (t6.withFs t6.r.all) (t6.withFs t6.r.all).tabs.length=_;rw[Jct];rfl,show(t6.withFs t6.r.all).size=sz from by rw[Hq];show Jfe (t6.withFs t6.r.all) (t6.withFs t6.r.all).tabs.length=_;rw[Jic];rfl] at Ho;have s:=zI Ho;have KS:=zI y;have KT:=zI (fun W F' g' (hT:Jae W F' g' t6)=>show Calls Tryz.prog 32 #[.pointer (some ⟨g',0,none⟩)] W fun e w'=>e= .returned (.int .i64 nd)/\Below W.heap.size W w' from by rw[Hp];exact Jh2 W hT q.n.1 q.rare);have KU:=zI (fun W F' g' (hT:Jae W F' g' t6)=>show Calls Tryz.prog 33 #[.pointer (some ⟨g',0,none⟩)] W fun e w'=>e= .returned (.int .i64 (sz:Int))/\Below W.heap.size W w' from by rw[Hq];exact(J06 W hT q.n.1 q.few).mono (fun e w' h=>⟨h.1,h.2 ▸ qaa _ _⟩));have KV:=zI (KP.out.chg Hm Kl.out);have Hr:=zI k;have Kn:=zI Hn;have KW:=zI q;clear k Hm Hn q y Ho Hp Hq a1 a3 b1 b3 d1;go_wp2_with fail
   refine s.out.mono ?_;rintro e w10 ⟨rfl,Z⟩;obtain⟨w11,p⟩:∃w11,w11=w10.alloc (.cells #[.int .u64 2,.int .i64 nd,.int .i64 0,.int .i64 0,.int .i64 (sz:Int),.bool false] 57):=⟨_,rfl⟩;obtain⟨g11,Y⟩:∃g11,g11=w10.heap.size:=⟨_,rfl⟩;have K:Bx w11 g11 57 #[.int .u64 2,.int .i64 nd,.int .i64 0,.int .i64 0,.int .i64 (sz:Int),.bool false]:=by rw[p,Y];exact Bx.new _ _ _
   have u:Below w9.heap.size w9 w11:=by rw[p];exact Z.trans (((qaa _ _).alloc (qab _) _).mono Z.size)
   have Ko:=zI K;have Kp:=zI (KV.out.below u);have J:=zI (Kn.out.trans (u.mono Kn.out.size));have Hs:=zI (KS.out.below u);have KX:=zI (J1a w11 (Hr.out.below u));have Kq:=zI p;have Kr:=zI Y;clear Z p Y K u;go_upto_region 13 with fail
   rw[<- Kq.out,<- Kr.out];go_wp2_with fail
   refine KX.out.mono ?_;rintro e w12 ⟨g12,rfl,I,H⟩;have KY:=zI (Jeo w12 I);have F:=zI H;clear I H;go_wp2_with fail
   refine KY.out.mono ?_;rintro e w13 ⟨g13,rfl,E,D⟩;have z:=F.out.trans (D.mono F.out.size);have C:=zI E;have V:=zI (Ko.out.below z);have KZ:=zI (Kp.out.below z);have t:=zI (J.out.trans (z.mono J.out.size));have K7:=zI (fun W (hW:Below w13.heap.size w13 W)=>Jq6 W ((Hs.out.below z).below hW) Hr.out.lay ((HG.out.below t.out).below hW) Hr.out.svd KW.out.withFs);have Ks:=zI (fun W (hW:Below w13.heap.size w13 W)=>Ht.out W (t.out.trans (hW.mono t.out.size)))
   have U:=zI (fun W (hW:Below w13.heap.size w13 W)=>show W.cell? ⟨g11,0,none⟩=some (.int .u64 2)/\W.cell? ⟨g11,1,none⟩=some (.int .i64 nd)/\W.cell? ⟨g11,3,none⟩=some (.int .i64 0)/\W.cell? ⟨g11,4,none⟩=some (.int .i64 (sz:Int))/\W.cell? ⟨g11,5,none⟩=some (.bool false)/\W.cell? ⟨g8,0,none⟩=some (.int .u64 1)/\Below w13.heap.size w13 W from
    ⟨(V.out.below hW).at_ 0 rfl,(V.out.below hW).at_ 1 rfl,(V.out.below hW).at_ 3 rfl,(V.out.below hW).at_ 4 rfl,(V.out.below hW).at_ 5 rfl,(KZ.out.below hW).at_ 0 rfl,hW⟩)
   clear E D z;have Ta:IntKind.u64.wrap (2:Int)=2:=by decide
   go_upto_region 14 with fail
   go_region_held3 (fun W=>W.cell? ⟨g11,0,none⟩=some (.int .u64 2)/\W.cell? ⟨g11,1,none⟩=some (.int .i64 nd)/\W.cell? ⟨g11,3,none⟩=some (.int .i64 0)/\W.cell? ⟨g11,4,none⟩=some (.int .i64 (sz:Int))/\W.cell? ⟨g11,5,none⟩=some (.bool false)/\W.cell? ⟨g8,0,none⟩=some (.int .u64 1)/\Below w13.heap.size w13 W)
    (first
      | exact U.out _ (qaa _ _).drew
      | exact U.out _ Kt
      | exact U.out _ Ku
      | exact U.out _ Kv
      | exact U.out _ hJ)
    (first
      | (go_at_call 9
         go_split_ands;refine(Ks.out _ (by assumption)).mono ?_;rintro e w14 ⟨rfl,Kw⟩;have Kt:Below w13.heap.size w13 w14:=Below.trans (by assumption) (Kw.mono (Below.size (by assumption))))
      | (go_at_call 32
         go_split_ands;refine(KT.out _ _ _ (C.out.below (by assumption))).mono ?_;rintro e w15 ⟨rfl,Kx⟩;have Ku:Below w13.heap.size w13 w15:=Below.trans (by assumption) (Kx.mono (Below.size (by assumption))))
      | (go_at_call 33
         go_split_ands;refine(KU.out _ _ _ (C.out.below (by assumption))).mono ?_;rintro e w17 ⟨rfl,Ky⟩;have Kv:Below w13.heap.size w13 w17:=Below.trans (by assumption) (Ky.mono (Below.size (by assumption))))
      | (go_at_call 24
         go_split_ands;refine(K7.out _ (by assumption)).mono ?_;rintro e w16 ⟨rfl,Kz⟩;have hJ:Below w13.heap.size w13 w16:=Below.trans (by assumption) (Kz.mono (Below.size (by assumption))))
      )
   have KC:=zI (t.out.trans (hJ.mono t.out.size));go_wp2_with fail
   go_ret;exact⟨rfl,KC.out⟩
end Go.Proofs.YtglmhddbhhcjdaaGreatDoor
