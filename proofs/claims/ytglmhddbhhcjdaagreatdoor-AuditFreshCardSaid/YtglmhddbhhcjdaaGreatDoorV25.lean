/-
  Several texts in one: StaA, StaB, StaC.
-/
import Derived.Test.YtglmhddbhhcjdaaGreatDoorV22
import Derived.Test.YtglmhddbhhcjdaaGreatDoorV24
set_option maxRecDepth 100000
set_option linter.unusedSimpArgs false
set_option maxHeartbeats 4000000
namespace Go.Proofs.YtglmhddbhhcjdaaGreatDoor
open Go.RowKit
structure StAt (w:World) (F:Nat ->Prop) (g room:Nat) (t:Tv):Prop where
 ex:∃gt FT,Bx w g 110 #[(room:Int),(gt:Nat),.pointer none]/\Jae w FT gt t/\ ¬ FT g/\∀b,FT b ->F b
 g:F g
 ins:Ins F w
 room:room<=4096
section
variable {w w':World} {F G:Nat ->Prop} {g room:Nat} {t:Tv}
theorem StAt.chg(h:StAt w F g room t)(hc:Chg G w w')(hd:Dj F G):StAt w' F g room t:=by
 obtain⟨gt,FT,y,x,v,z⟩:=h.ex;exact⟨⟨gt,FT,y.chg hc (hd _ h.g),x.chg hc (fun b hb=>hd b (z b hb)),v,z⟩,h.g,h.ins.up hc.size,h.room⟩
theorem StAt.below(h:StAt w F g room t)(hb:Below w.heap.size w w'):StAt w' F g room t:=by
 obtain⟨gt,FT,z,y,x,v⟩:=h.ex;exact⟨⟨gt,FT,z.below hb,y.below hb,x,v⟩,h.g,h.ins.up hb.size,h.room⟩
theorem StAt.sub(h:StAt w F g room t)(hs:∀b,F b ->G b)(hi:Ins G w):StAt w G g room t:=by
 obtain⟨gt,FT,y,x,v,z⟩:=h.ex;exact⟨⟨gt,FT,y,x,v,fun b hb=>hs b (z b hb)⟩,hs _ h.g,hi,h.room⟩
theorem StAt.boxed{w1:World}{gt:Nat}(h:Jae w1 (made w w1) gt t)(hs:w.heap.size<=w1.heap.size)(hr:room<=4096):
  StAt (w1.alloc (.cells #[(room:Int),gt,.pointer none] 110)) (made w (w1.alloc (.cells #[(room:Int),gt,.pointer none] 110))) w1.heap.size room t:=by
 have z:(w1.alloc (.cells #[(room:Int),gt,.pointer none] 110)).heap.size=w1.heap.size+1:=by simp
 have y:=h.below ((qaa w1.heap.size w1).alloc (qab _) (.cells #[(room:Int),gt,.pointer none] 110));exact⟨⟨gt,made w w1,Bx.new w1 _ _,y,fun hb=>Nat.lt_irrefl _ hb.2,fun b hb=>⟨hb.1,by have:=hb.2;omega⟩⟩,⟨hs,by omega⟩,Ins.made,hr⟩
end
theorem Jme(room:Int)(w:World)(h:0<=room/\room<=4096):Cs 38 #[(room:Int)] w fun e w'=>e= .returned true/\w=w':=by
 have d1:decide ((0:Int)<=room)=true:=qan h.1;have d2:decide (room<=(4096:Int))=true:=qan h.2;go_enter Tryz.func38,Tryz.ntmps38;go_wp2;go_ret;exact⟨rfl,rfl⟩
theorem Jn8(a:Int)(w:World)(h:0<=a/\a<=1099511627776):Cs 59 #[(a:Int),(0:Int)] w (RS w (a:Int)):=by
 have d1:decide ((9223372036854775807:Int)<a)=false:=qae (by omega);have d2: ¬ ((9223372036854775807:Int)<a):=by omega
 have e1:IntKind.i64.wrap a=a:=qbd _ (by omega);go_enter Tryz.func59,Tryz.ntmps59;go_wp2;go_ret;exact⟨rfl,rfl⟩
theorem Jep{F:Nat ->Prop}{g room:Nat}{t:Tv}(w:World)(h:StAt w F g room t):Cs 46 #[g] w fun e w'=>e= .returned false/\w=w':=by
 obtain⟨gt,FT,z,_,_,_⟩:=h.ex;have s1:=z.at_ 1 (v:= gt) rfl;clear h z;go_enter Tryz.func46,Tryz.ntmps46;go_wp2;go_ret;exact⟨rfl,rfl⟩
theorem Jqg{F:Nat ->Prop}{g room:Nat}{t:Tv}(w:World)(h:StAt w F g room t):Cs 90 #[g] w (RS w (room:Int)):=by
 obtain⟨gt,FT,z,_,_,_⟩:=h.ex;have s1:=z.at_ 0 (v:= (room:Int)) rfl;clear h z;go_enter Tryz.func90,Tryz.ntmps90;go_wp2;go_ret;exact⟨rfl,rfl⟩
theorem Jeq(w:World):Cs 60 #[.pointer none] w (RS w (0:Int)):=by
 go_enter Tryz.func60,Tryz.ntmps60;go_wp2;go_ret;exact⟨rfl,rfl⟩
theorem Jqh(w:World):Cs 138 #[.pointer none] w (RS w (.pointer none)):=by
 go_enter Tryz.func138,Tryz.ntmps138;go_wp2;go_ret;exact⟨rfl,rfl⟩
theorem Jy9(p q:Value)(w:World):Cs 62 #[.pointer none,p,q] w (RS w (.tuple #[])):=by
 go_enter Tryz.func62,Tryz.ntmps62;go_wp2;exact qa7 (results_none rfl _ _ _) rfl ⟨rfl,rfl⟩
def Tv.new (nm:ByteArray) (ts:List Ti) (now:Int):Tv:=⟨⟨now,nm,ts,[]⟩,List.replicate ts.length []⟩
theorem Jt9(room:Nat)(s:ByteArray)(nm:List UInt8)(ts:List Ti)(w:World)(hr:room<=4096)(hs:s.size<=maxLen)(hP:Py.readT s= .good nm ts)(hm:∃m:Int,w.cell? ⟨0,0,none⟩=some (.int .i64 m)):
  Cs 12 #[(room:Int),s] w fun e w'=>∃g,e= .returned (.tuple #[(g:Nat),(0:Int)])/\StAt w' (made w w') g room (Tv.new ⟨nm.toArray⟩ ts 0)/\Below w.heap.size w w':=by
 have u:=Py.readT_good hP;obtain⟨_,E,D,H,_⟩:=Py.check_fine u;have P:=zI (Jme (room:Int) w (by omega));have O:=zI u;have C:=zI H;obtain⟨n,R⟩:=exE ts.length;rw[<- R] at E D;have G:=zI R
 have N:Hid (Cs 39 #[s] w fun e w'=>(∃A c,e= .returned (.tuple #[polV ⟨nm.toArray⟩ A n c,(0:Int),(0:Int)])/\w'.ownsRow w.heap.size 167 4 (.slice A n c) n (ts.flatMap Ti.cells)/\(∀t∈ts,t.Ok)/\nm.length<=4000)/\Below w.heap.size w w'):=by
  have X:=Py.read_any s w hs hm;rw[hP] at X;refine zI (X.mono ?_);rintro e w' ⟨⟨A,c,f,j,y,d,_⟩,x⟩;rw[<- R] at f j;exact⟨⟨A,c,f,j,y,d⟩,x⟩
 clear u hP H hm R;go_enter Tryz.func12,Tryz.ntmps12;go_wp2_with fail
 refine P.out.mono ?_;rintro e w1 ⟨rfl,B⟩;subst B;go_wp2_with fail
 refine N.out.mono ?_;rintro e w1 ⟨⟨A,c,rfl,j,y,d⟩,r⟩;have a:Tis w1 A n ts:=by obtain⟨A',c',e,hh⟩:=Jil j G.out.symm y (by unfold maxLen;omega);cases e;exact hh
 have q:n<=c:=by obtain⟨_,_,e,h,_⟩:=Py.own_slice j;cases e;exact h
 have p:=(qaa w1.heap.size w1).alloc (qab _) (.cells #[.string ⟨nm.toArray⟩,.slice A n c] 101);have M:=zI (a.below p);have o:=zI (r.trans (p.mono r.size));have l:(⟨nm.toArray⟩:ByteArray).size<=maxLen:=by rw[<- Jac,Py.toList_mk];unfold maxLen;omega
 have L:=zI (Jxz ⟨nm.toArray⟩ A n c ts 0 none 0 0 [] _ (fun W hW=>by
   refine(Py.check_any ⟨nm.toArray⟩ A n c ts W l hW q).mono ?_;rintro e w' ⟨f,x⟩;rw[Py.toList_mk,O.out] at f;exact⟨f,x⟩) M.out q ⟨⟨fun h=>absurd rfl h⟩,rfl,by unfold maxLen;omega,fun z hz=>by cases hz⟩ ⟨by omega,by omega⟩ ⟨qaq _,fun i hi=>by cases hi⟩ (fun t ht=>(C.out t ht).ev.1) (by omega) l)
 clear a q p j y r l;go_wp2_with fail
 refine L.out.mono ?_;rintro e w3 ⟨gt,rfl,Z,Y⟩;have V:=(qaa w3.heap.size w3).alloc (qab _) (.cells #[(room:Int),gt,.pointer none] 110);have k:(w3.alloc (.cells #[(room:Int),gt,.pointer none] 110)).heap.size=w3.heap.size+1:=by simp
 have U:=zI V;have K:=zI Z;have J:=zI k;have T:=zI (o.out.trans (Y.mono o.out.size));clear Y Z V k;go_wp2_with fail
 go_ret2;have F:=o.out.size;have v:=T.out.size;have k:=J.out;have I:=K.out.below U.out;have S:=I;rw[show(⟨⟨0,⟨nm.toArray⟩,ts,[]⟩,List.replicate n []⟩:Tv)=Tv.new ⟨nm.toArray⟩ ts 0 from by unfold Tv.new;rw[G.out]] at S;refine⟨w3.heap.size,rfl,⟨⟨gt,_,Bx.new w3 110 _,S,fun x=>Nat.lt_irrefl _ x.2,fun b x=>⟨by have:=x.1;omega,by have:=x.2;omega⟩⟩,⟨v,by omega⟩,Ins.made,hr⟩,T.out.trans (U.out.mono v)⟩
theorem Jza{F:Nat ->Prop}{g room:Nat}{t:Tv}(w:World)(h:StAt w F g room t)(h1:1<=t.tabs.length)(hf:t.Few)(h3:t.tabs.length<=1000):
  Cs 289 #[g] w (RB w (t.need:Int)):=by
 have u:=zI (Jep w h);obtain⟨gt,FT,s,p,_,_⟩:=h.ex;have r:=zI (Jh3 w.drew (p.below (qaa _ _).drew) h1 hf);have z:=Jf3 hf t.tabs.length (qab _);have q:=zI (fun W=>Jn8 t.need W ⟨z.1,by have:=z.2;unfold Tv.need;omega⟩);have o:=zI s;have x:=zI s.drew;clear h s p hf z;go_enter Tryz.func289,Tryz.ntmps289;go_wp2_with fail
 refine u.out.mono ?_;rintro e w1 ⟨rfl,n⟩;subst n;go_upto_region 3 with fail
 go_region_held3 (fun w'=>w'.cell? ⟨g,1,none⟩=some (.pointer (some ⟨gt,0,none⟩))/\w'.cell? ⟨g,2,none⟩=some (.pointer none)/\Below w.heap.size w w')
  (first
    | exact⟨x.out.at_ 1 rfl,x.out.at_ 2 rfl,(qaa _ _).drew⟩
    | (have y:=(qaa w.heap.size w).drew.trans v
       exact⟨(o.out.below y).at_ 1 rfl,(o.out.below y).at_ 2 rfl,y⟩))
  (first
    | (go_at_call 32;refine r.out.mono ?_;rintro e w2 ⟨rfl,v⟩)
    | (go_at_call 60;refine(Jeq _).mono ?_;rintro e w4 ⟨rfl,rfl⟩)
    | (go_at_call 59;refine(q.out _).mono ?_;rintro e w5 ⟨rfl,rfl⟩))
 have y:Below w.heap.size w w2:=by go_split_ands;assumption
 have m:=zI y;clear y v;go_wp2_with fail
 go_ret;exact⟨rfl,m.out⟩
theorem Jer{F:Nat ->Prop}{g room:Nat}{t:Tv}(w:World)(h:StAt w F g room t):
  Cs 31 #[g] w fun e w'=>∃g',e= .returned (g':Nat)/\Jae w' (made w w') g' t/\Below w.heap.size w w':=by
 obtain⟨gt,FT,y,z,_,_⟩:=h.ex;have u:=zI (Jh4 w z);have s1:=y.at_ 1 (v:= gt) rfl;clear h y z;go_enter Tryz.func31,Tryz.ntmps31;go_wp2_with fail
 refine u.out.mono ?_;rintro e w1 ⟨g',rfl,z,x⟩;have s:=zI z;have r:=zI x;clear z x;go_wp2_with fail
 go_ret;exact⟨g',rfl,s.out,r.out⟩
theorem Je9{F:Nat ->Prop}{g room:Nat}{t:Tv}(w:World)(h:StAt w F g room t):
  Cs 71 #[g] w (RS w (.pointer none)):=by
 obtain⟨gt,FT,z,y,_,_⟩:=h.ex;have s1:=z.at_ 2 (v:= .pointer none) rfl;clear h z y;go_enter Tryz.func71,Tryz.ntmps71;go_wp2_with fail
 refine(Jqh _).mono ?_;rintro e w1 ⟨rfl,x⟩;subst x;go_wp2_with fail
 go_ret;exact⟨rfl,rfl⟩
set_option linter.unusedSimpArgs false in
theorem Jua{F:Nat ->Prop}{g room:Nat}{t:Tv}{A:Option Addr}{n c:Nat}{l:List Smp}(w:World)(h:StAt w F g room t)(h1:1<=t.tabs.length)(h3:t.tabs.length<=1000)(hl:Smps w A n l)(hn:1<=n/\n<=8)(hfew:∀i,i<t.tabs.length ->(t.tab i).length<=900000)(hg:∀s∈l,t.r.Gets s)(hev:∀i,i<t.tabs.length -> -9223372036854775808<=t.r.ev i/\t.r.ev i<=9223372036854775807)(hf:(t.put l).Few)(hneed:(t.put l).need<=(room:Int)):
  Cs 19 #[g,.slice A n c] w fun e w'=>e= .returned (0:Int)/\StAt w' (grow F w w') g room (t.put l)/\Chg F w w':=by
 have I:=zI (Jep w h);have m:=zI h.g;have u:=zI h.ins;have k:=zI h.room
 have hA:AIn (fun b=>b<w.heap.size) A:=fun a e=>by
  obtain⟨b,off,e',f,_⟩:=hl.get (j:=0) (by rw[hl.len];exact hn.1);rw[e'] at e;cases e;exact f
 obtain⟨gt,FT,H,hT,_,_⟩:=h.ex;have HC:=zI (Jh4 w hT);have G:=zI (fun W F' g' (hT':Jae W F' g' t) (hl':Smps W A n l) (hA':AIn (fun b=> ¬ F' b) A)=>Jy2 (c:=c) W hT' h1 hl' hA' hn hfew hg hev);have x:(t.put l).tabs.length=t.tabs.length:=t.put_len l;have P:=zI (fun W F' g' (hT':Jae W F' g' (t.put l))=>Jh3 W hT' (by rw[x];exact h1) hf);have d:=Jf3 hf (t.put l).tabs.length (qab _);have E:=zI (fun W=>Jn8 (t.put l).need W ⟨d.1,by have:=d.2;rw[x] at this;unfold Tv.need;rw[x];omega⟩);have HL:=zI hl;have HA:=zI hA;have HX:=zI H;have s1:=H.at_ 1 (v:= gt) rfl;have d1:decide ((room:Int)<(t.put l).need)=false:=qae (by omega);have d2: ¬ ((room:Int)<(t.put l).need):=by omega
 clear h H hT hf d hl hA hfew hg hev x hneed hn;generalize t.put l=t2 at*;go_enter Tryz.func19,Tryz.ntmps19;go_wp2_with fail
 refine I.out.mono ?_;rintro e w0 ⟨rfl,hw⟩;subst hw;go_wp2_with fail
 refine HC.out.mono ?_;rintro e w1 ⟨g',rfl,Z,Y⟩;have D:=zI (G.out w1 _ g' Z (HL.out.below Y) (fun a e hm=>by have:=HA.out a e;have:=hm.1;omega));have C:=zI Y;have Hc:=zI Z.g;clear Z Y;go_wp2_with fail
 refine D.out.mono ?_;rintro e w2 ⟨rfl,V,O⟩;have U:=zI (Chg.made C.out O);have y:=zI (HX.out.below U.out);have B:=zI (P.out w2.drew _ g' (V.below (qaa _ _).drew));have hJ:=zI V;clear V O s1;go_upto_region 7 with fail
 refine wp_region_held_drew (S:=(fun w'=>w'.cell? ⟨g,0,none⟩=some (.int .i64 (room:Int))/\w'.cell? ⟨g,2,none⟩=some (.pointer none)/\Below w2.heap.size w2 w')) (by kernel_rfl) ?_ (fun hHeld=> ?_)
 · exact⟨y.out.drew.at_ 0 rfl,y.out.drew.at_ 2 rfl,(qaa _ _).drew⟩
 refine tkE 0 ?_
 try simp only[qah,qag,qaf,Act.put,qac,qai,qaj]
 refine tkE 2 ?_
 try simp only[qah,qag,qaf,Act.put,qac,qai,qaj]
 refine tkE 3 ?_
 try simp only[qah,qag,qaf,Act.put,qac,qai,qaj]
 refine tkE 4 ?_
 try simp only[qah,qag,qaf,Act.put,qac,qai,qaj]
 refine tkE 5 ?_
 try simp only[qah,qag,qaf,Act.put,qac,qai,qaj]
 refine tkE 8 ?_
 try simp only[qah,qag,qaf,Act.put,qac,qai,qaj]
 refine tkE 9 ?_
 try simp only[qah,qag,qaf,Act.put,qac,qai,qaj]
 refine tkE 10 ?_
 try simp only[qah,qag,qaf,Act.put,qac,qai,qaj]
 refine tkE 11 ?_
 try simp only[qah,qag,qaf,Act.put,qac,qai,qaj]
 refine tkE 12 ?_
 try simp only[qah,qag,qaf,Act.put,qac,qai,qaj]
 refine wpAnyH_ready (rs:=[1]) (by kernel_rfl) (by simp) (AllReadyH.cons (o:=_) rfl (fun K hK=> ?_) AllReadyH.nil);go_simp
 go_at_call 32
 refine B.out.mono ?_;rintro e w3 ⟨rfl,N⟩;refine hK.out _ _ ?_ (fun hHeld=> ?_)
 · (have q:=(qaa w2.heap.size w2).drew.trans N;exact⟨(y.out.below q).at_ 0 rfl,(y.out.below q).at_ 2 rfl,q⟩)
 clear hK K
 try simp only[qah,qag,qaf,Act.put,qac,qai,qaj]
 refine wpAnyH_ready (rs:=[6]) (by kernel_rfl) (by simp) (AllReadyH.cons (o:=_) rfl (fun K hK=> ?_) AllReadyH.nil);go_simp
 go_at_call 60
 refine(Jeq _).mono ?_;rintro e w4 ⟨rfl,rfl⟩;refine hK.out _ _ ?_ (fun hHeld=> ?_)
 · exact hHeld
 clear hK K
 try simp only[qah,qag,qaf,Act.put,qac,qai,qaj]
 refine wpAnyH_ready (rs:=[7]) (by kernel_rfl) (by simp) (AllReadyH.cons (o:=_) rfl (fun K hK=> ?_) AllReadyH.nil);go_simp
 go_at_call 59
 refine(E.out _).mono ?_;rintro e w5 ⟨rfl,rfl⟩;refine hK.out _ _ ?_ (fun hHeld=> ?_)
 · exact hHeld
 clear hK K
 try simp only[qah,qag,qaf,Act.put,qac,qai,qaj]
 refine tkE 13 ?_
 try simp only[qah,qag,qaf,Act.put,qac,qai,qaj]
 refine tkE 14 ?_
 try simp only[qah,qag,qaf,Act.put,qac,qai,qaj]
 refine tkE 15 ?_
 try simp only[qah,qag,qaf,Act.put,qac,qai,qaj]
 refine tkE 16 ?_
 try simp only[qah,qag,qaf,Act.put,qac,qai,qaj]
 refine tkE 17 ?_
 try simp only[qah,qag,qaf,Act.put,qac,qai,qaj]
 refine tkE 18 ?_
 try simp only[qah,qag,qaf,Act.put,qac,qai,qaj]
 refine tkE 19 ?_
 try simp only[qah,qag,qaf,Act.put,qac,qai,qaj]
 refine tkE 20 ?_
 try simp only[qah,qag,qaf,Act.put,qac,qai,qaj]
 refine skE 21 ?_
 try simp only[qah,qag,qaf,Act.put,qac,qai,qaj]
 refine skE 22 ?_
 try simp only[qah,qag,qaf,Act.put,qac,qai,qaj]
 refine skE 23 ?_
 try simp only[qah,qag,qaf,Act.put,qac,qai,qaj]
 refine skE 24 ?_
 try simp only[qah,qag,qaf,Act.put,qac,qai,qaj]
 refine skE 25 ?_
 try simp only[qah,qag,qaf,Act.put,qac,qai,qaj]
 refine skE 26 ?_
 try simp only[qah,qag,qaf,Act.put,qac,qai,qaj]
 refine skE 27 ?_
 try simp only[qah,qag,qaf,Act.put,qac,qai,qaj]
 refine tkE 28 ?_
 try simp only[qah,qag,qaf,Act.put,qac,qai,qaj]
 refine tkE 29 ?_
 try simp only[qah,qag,qaf,Act.put,qac,qai,qaj]
 refine wpAnyH_done (by kernel_rfl) ?_ _;have q:Below w2.heap.size w2 w3:=hHeld.2.2;have T:=zI (y.out.below q);have M:=zI (hJ.out.below q);have L:=zI (U.out.trans (q.mono U.out.size));have x1:=T.out.at_ 1 (v:= gt) rfl;have f1:=T.out.free 1;clear q hHeld N;go_wp2_with fail
 refine(Jy9 _ _ _).mono ?_;rintro e w6 ⟨rfl,rfl⟩;go_wp2_with fail
 go_ret;have Hd:=u.out _ m.out;have Ha:=L.out.size;have R:Chg (fun b=>b=g) w3 (w3.setCell ⟨g,1,none⟩ g'):=Chg.set w3 _ _ rfl;have J:=R.size;have p: ¬ made w w1 g:=fun hh=>by have:=hh.1;omega
 have Hb:=M.out.chg R (fun b f e=>by rw[e] at f;exact p f);refine⟨rfl,⟨⟨g',made w w1,T.out.set 1 _,Hb,p,fun b f=> .inr ⟨f.1,qar (M.out.ins b f) J⟩⟩,.inl m.out,Ins.grow u.out (qat Ha J),k.out⟩,?_⟩;exact(Chg.of_below L.out).trans R (fun b e=> .inl (by rw[e];exact m.out))
theorem Jzb(p:Value)(w:World):Cs 288 #[p,.pointer none] w (RS w (0:Int)):=by
 go_enter Tryz.func288,Tryz.ntmps288;go_wp2;go_ret;exact⟨rfl,rfl⟩
theorem Jzc{F:Nat ->Prop}{g room:Nat}{t:Tv}(w:World)(hr:room<=4096)(h:Jae w F g t)(h1:1<=t.tabs.length)(hf:t.Few)(hneed:t.need<=(room:Int)):
  Cs 219 #[(room:Int),g,.pointer none] w fun e w'=>∃g',e= .returned (.tuple #[(g':Nat),(0:Int)])/\StAt w' (made w w') g' room t/\Below w.heap.size w w':=by
 have m:=zI (Jh4 w h);have o:=zI (Jme (room:Int) w (by omega));have x:=zI (fun W F' g' (hS:StAt W F' g' room t)=>Jza W hS h1 hf h.few);have d1:decide ((room:Int)<t.need)=false:=qae (by omega);have d2: ¬ ((room:Int)<t.need):=by omega
 clear h hf h1 hneed;go_enter Tryz.func219,Tryz.ntmps219
 go_wp2_with (first
  | (go_at_call 38;refine o.out.mono ?_;rintro e w1 ⟨rfl,v⟩;subst v)
  | (go_at_call 288;refine(Jzb _ _).mono ?_;rintro e w1 ⟨rfl,v⟩;subst v))
 refine m.out.mono ?_;rintro e w1 ⟨gt,rfl,u,z⟩;have s:=(qaa w1.heap.size w1).alloc (qab _) (.cells #[(room:Int),gt,.pointer none] 110);have r:=zI (z.trans (s.mono z.size));have q:=zI (StAt.boxed (room:=room) u z.size hr);have n:=zI (x.out _ _ _ q.out);clear u z s
 go_wp2_with (first
  | (go_at_call 138;refine(Jqh _).mono ?_;rintro e w2 ⟨rfl,v⟩;subst v)
  | (go_at_call 289;refine n.out.mono ?_;rintro e w3 ⟨rfl,p⟩;have y:=zI p;clear p))
 go_ret2;have l:=r.out.size;have k:=y.out.size;exact⟨w1.heap.size,rfl,(q.out.below y.out).sub (fun b hb=>⟨hb.1,qar hb.2 k⟩) Ins.made,r.out.trans (y.out.mono l)⟩
end Go.Proofs.YtglmhddbhhcjdaaGreatDoor
