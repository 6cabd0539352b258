/- Laws that the walk of the last text wants. -/
import Derived.Test.YtglmhddbhhcjdaaGreatDoorC21
import Derived.Test.YtglmhddbhhcjdaaGreatDoorC23
set_option maxRecDepth 100000
set_option linter.unusedSimpArgs false
set_option maxHeartbeats 4000000
namespace Go.Proofs.YtglmhddbhhcjdaaGreatDoor
open Go.RowKit
structure StAt (w:World) (F:Nat ->Prop) (g room:Nat) (t:Tv):Prop where
 ex:∃gt FT,Bx w g 110 #[(room:Int),(gt:Nat),.pointer none]/\Jag w FT gt t/\ ¬ FT g/\∀b,FT b ->F b
 g:F g
 ins:Ins F w
 room:room<=4096
section
variable {w w':World} {F G:Nat ->Prop} {g room:Nat} {t:Tv}
theorem StAt.chg(h:StAt w F g room t)(hc:Chg G w w')(hd:Dj F G):StAt w' F g room t:=by
 obtain⟨gt,FT,y,x,v,z⟩:=h.ex;exact⟨⟨gt,FT,y.chg hc (hd _ h.g),x.chg hc (fun b hb=>hd b (z b hb)),v,z⟩,h.g,h.ins.up hc.size,h.room⟩
theorem StAt.below(h:StAt w F g room t)(hb:Below w.heap.size w w'):StAt w' F g room t:=by
 obtain⟨gt,FT,z,y,x,v⟩:=h.ex;exact⟨⟨gt,FT,z.below hb,y.below hb,x,v⟩,h.g,h.ins.up hb.size,h.room⟩
theorem StAt.sub(h:StAt w F g room t)(hs:∀b,F b ->G b)(hi:Ins G w):StAt w G g room t:=by
 obtain⟨gt,FT,y,x,v,z⟩:=h.ex;exact⟨⟨gt,FT,y,x,v,fun b hb=>hs b (z b hb)⟩,hs _ h.g,hi,h.room⟩
theorem StAt.boxed{w1:World}{gt:Nat}(h:Jag w1 (made w w1) gt t)(hs:w.heap.size<=w1.heap.size)(hr:room<=4096):
  StAt (w1.alloc (.cells #[(room:Int),gt,.pointer none] 110)) (made w (w1.alloc (.cells #[(room:Int),gt,.pointer none] 110))) w1.heap.size room t:=by
 have z:(w1.alloc (.cells #[(room:Int),gt,.pointer none] 110)).heap.size=w1.heap.size+1:=by simp
 have y:=h.below ((qaa w1.heap.size w1).alloc (qab _) (.cells #[(room:Int),gt,.pointer none] 110));exact⟨⟨gt,made w w1,Bx.new w1 _ _,y,fun hb=>Nat.lt_irrefl _ hb.2,fun b hb=>⟨hb.1,by have:=hb.2;omega⟩⟩,⟨hs,by omega⟩,Ins.made,hr⟩
end
theorem Jmv(room:Int)(w:World)(h:0<=room/\room<=4096):Cs 38 #[(room:Int)] w fun e w'=>e= .returned true/\w=w':=by
 have d1:decide ((0:Int)<=room)=true:=qaj h.1;have d2:decide (room<=(4096:Int))=true:=qaj h.2;go_enter Tryz.func38,Tryz.ntmps38;go_wp2;go_ret;exact⟨rfl,rfl⟩
theorem Joo(a:Int)(w:World)(h:0<=a/\a<=1099511627776):Cs 59 #[(a:Int),(0:Int)] w (RS w (a:Int)):=by
 have d1:decide ((9223372036854775807:Int)<a)=false:=qae (by omega);have d2: ¬ ((9223372036854775807:Int)<a):=by omega
 have e1:IntKind.i64.wrap a=a:=qbd _ (by omega);go_enter Tryz.func59,Tryz.ntmps59;go_wp2;go_ret;exact⟨rfl,rfl⟩
theorem Jev{F:Nat ->Prop}{g room:Nat}{t:Tv}(w:World)(h:StAt w F g room t):Cs 46 #[g] w fun e w'=>e= .returned false/\w=w':=by
 obtain⟨gt,FT,z,_,_,_⟩:=h.ex;have s1:=z.at_ 1 (v:= gt) rfl;clear h z;go_enter Tryz.func46,Tryz.ntmps46;go_wp2;go_ret;exact⟨rfl,rfl⟩
theorem Jqp{F:Nat ->Prop}{g room:Nat}{t:Tv}(w:World)(h:StAt w F g room t):Cs 90 #[g] w (RS w (room:Int)):=by
 obtain⟨gt,FT,z,_,_,_⟩:=h.ex;have s1:=z.at_ 0 (v:= (room:Int)) rfl;clear h z;go_enter Tryz.func90,Tryz.ntmps90;go_wp2;go_ret;exact⟨rfl,rfl⟩
theorem Jgq(w:World):Cs 60 #[.pointer none] w (RS w (0:Int)):=by
 go_enter Tryz.func60,Tryz.ntmps60;go_wp2;go_ret;exact⟨rfl,rfl⟩
theorem Jqq(w:World):Cs 138 #[.pointer none] w (RS w (.pointer none)):=by
 go_enter Tryz.func138,Tryz.ntmps138;go_wp2;go_ret;exact⟨rfl,rfl⟩
theorem Jzx(p q:Value)(w:World):Cs 62 #[.pointer none,p,q] w (RS w (.tuple #[])):=by
 go_enter Tryz.func62,Tryz.ntmps62;go_wp2;exact qa6 (results_none rfl _ _ _) rfl ⟨rfl,rfl⟩
def Tv.new (nm:ByteArray) (ts:List Ti) (now:Int):Tv:=⟨⟨now,nm,ts,[]⟩,List.replicate ts.length []⟩
theorem Jux(room:Nat)(s:ByteArray)(nm:List UInt8)(ts:List Ti)(w:World)(hr:room<=4096)(hs:s.size<=maxLen)(hP:Py.readT s= .good nm ts)(hm:∃m:Int,w.cell? ⟨0,0,none⟩=some (.int .i64 m)):
  Cs 12 #[(room:Int),s] w fun e w'=>∃g,e= .returned (.tuple #[(g:Nat),(0:Int)])/\StAt w' (made w w') g room (Tv.new ⟨nm.toArray⟩ ts 0)/\Below w.heap.size w w':=by
 have u:=Py.readT_good hP;obtain⟨_,E,D,H,_⟩:=Py.check_fine u;have P:=zI (Jmv (room:Int) w (by omega));have O:=zI u;have C:=zI H;obtain⟨n,R⟩:=exE ts.length;rw[<- R] at E D;have G:=zI R
 have N:Hid (Cs 39 #[s] w fun e w'=>(∃A c,e= .returned (.tuple #[polV ⟨nm.toArray⟩ A n c,(0:Int),(0:Int)])/\w'.ownsRow w.heap.size 167 4 (.slice A n c) n (ts.flatMap Ti.cells)/\(∀t∈ts,t.Ok)/\nm.length<=4000)/\Below w.heap.size w w'):=by
  have X:=Py.read_any s w hs hm;rw[hP] at X;refine zI (X.mono ?_);rintro e w' ⟨⟨A,c,f,j,y,d,_⟩,x⟩;rw[<- R] at f j;exact⟨⟨A,c,f,j,y,d⟩,x⟩
 clear u hP H hm R;go_enter Tryz.func12,Tryz.ntmps12;go_wp2_with fail
 refine P.out.mono ?_;rintro e w1 ⟨rfl,B⟩;subst B;go_wp2_with fail
 refine N.out.mono ?_;rintro e w1 ⟨⟨A,c,rfl,j,y,d⟩,r⟩;have a:Tis w1 A n ts:=by obtain⟨A',c',e,hh⟩:=Jis j G.out.symm y (by unfold maxLen;omega);cases e;exact hh
 have q:n<=c:=by obtain⟨_,_,e,h,_⟩:=Py.own_slice j;cases e;exact h
 have p:=(qaa w1.heap.size w1).alloc (qab _) (.cells #[.string ⟨nm.toArray⟩,.slice A n c] 101);have M:=zI (a.below p);have o:=zI (r.trans (p.mono r.size));have l:(⟨nm.toArray⟩:ByteArray).size<=maxLen:=by rw[<- Jac,Py.toList_mk];unfold maxLen;omega
 have L:=zI (Jyl ⟨nm.toArray⟩ A n c ts 0 none 0 0 [] _ (fun W hW=>by
   refine(Py.check_any ⟨nm.toArray⟩ A n c ts W l hW q).mono ?_;rintro e w' ⟨f,x⟩;rw[Py.toList_mk,O.out] at f;exact⟨f,x⟩) M.out q ⟨⟨fun h=>absurd rfl h⟩,rfl,by unfold maxLen;omega,fun z hz=>by cases hz⟩ ⟨by omega,by omega⟩ ⟨qaq _,fun i hi=>by cases hi⟩ (fun t ht=>(C.out t ht).ev.1) (by omega) l)
 clear a q p j y r l;go_wp2_with fail
 refine L.out.mono ?_;rintro e w3 ⟨gt,rfl,Z,Y⟩;have V:=(qaa w3.heap.size w3).alloc (qab _) (.cells #[(room:Int),gt,.pointer none] 110);have k:(w3.alloc (.cells #[(room:Int),gt,.pointer none] 110)).heap.size=w3.heap.size+1:=by simp
 have U:=zI V;have K:=zI Z;have J:=zI k;have T:=zI (o.out.trans (Y.mono o.out.size));clear Y Z V k;go_wp2_with fail
 go_ret2;have F:=o.out.size;have v:=T.out.size;have k:=J.out;have I:=K.out.below U.out;have S:=I;rw[show(⟨⟨0,⟨nm.toArray⟩,ts,[]⟩,List.replicate n []⟩:Tv)=Tv.new ⟨nm.toArray⟩ ts 0 from by unfold Tv.new;rw[G.out]] at S;refine⟨w3.heap.size,rfl,⟨⟨gt,_,Bx.new w3 110 _,S,fun x=>Nat.lt_irrefl _ x.2,fun b x=>⟨by have:=x.1;omega,by have:=x.2;omega⟩⟩,⟨v,by omega⟩,Ins.made,hr⟩,T.out.trans (U.out.mono v)⟩
theorem Jzy{F:Nat ->Prop}{g room:Nat}{t:Tv}(w:World)(h:StAt w F g room t)(h1:1<=t.tabs.length)(hf:t.Few)(h3:t.tabs.length<=1000):
  Cs 289 #[g] w (RB w (t.need:Int)):=by
 have u:=zI (Jev w h);obtain⟨gt,FT,s,p,_,_⟩:=h.ex;have r:=zI (Jjz w.drew (p.below (qaa _ _).drew) h1 hf);have z:=Jf7 hf t.tabs.length (qab _);have q:=zI (fun W=>Joo t.need W ⟨z.1,by have:=z.2;unfold Tv.need;omega⟩);have o:=zI s;have x:=zI s.drew;clear h s p hf z;go_enter Tryz.func289,Tryz.ntmps289;go_wp2_with fail
 refine u.out.mono ?_;rintro e w1 ⟨rfl,n⟩;subst n;go_upto_region 3 with fail
 go_region_held3 (fun w'=>w'.cell? ⟨g,1,none⟩=some (.pointer (some ⟨gt,0,none⟩))/\w'.cell? ⟨g,2,none⟩=some (.pointer none)/\Below w.heap.size w w')
  (first
    | exact⟨x.out.at_ 1 rfl,x.out.at_ 2 rfl,(qaa _ _).drew⟩
    | (have y:=(qaa w.heap.size w).drew.trans v
       exact⟨(o.out.below y).at_ 1 rfl,(o.out.below y).at_ 2 rfl,y⟩))
  (first
    | (go_at_call 32;refine r.out.mono ?_;rintro e w2 ⟨rfl,v⟩)
    | (go_at_call 60;refine(Jgq _).mono ?_;rintro e w4 ⟨rfl,rfl⟩)
    | (go_at_call 59;refine(q.out _).mono ?_;rintro e w5 ⟨rfl,rfl⟩))
 have y:Below w.heap.size w w2:=by go_split_ands;assumption
 have m:=zI y;clear y v;go_wp2_with fail
 go_ret;exact⟨rfl,m.out⟩
theorem Jgr{F:Nat ->Prop}{g room:Nat}{t:Tv}(w:World)(h:StAt w F g room t):
  Cs 31 #[g] w fun e w'=>∃g',e= .returned (g':Nat)/\Jag w' (made w w') g' t/\Below w.heap.size w w':=by
 obtain⟨gt,FT,y,z,_,_⟩:=h.ex;have u:=zI (Jic w z);have s1:=y.at_ 1 (v:= gt) rfl;clear h y z;go_enter Tryz.func31,Tryz.ntmps31;go_wp2_with fail
 refine u.out.mono ?_;rintro e w1 ⟨g',rfl,z,x⟩;have s:=zI z;have r:=zI x;clear z x;go_wp2_with fail
 go_ret;exact⟨g',rfl,s.out,r.out⟩
theorem Jhk{F:Nat ->Prop}{g room:Nat}{t:Tv}(w:World)(h:StAt w F g room t):
  Cs 71 #[g] w (RS w (.pointer none)):=by
 obtain⟨gt,FT,z,y,_,_⟩:=h.ex;have s1:=z.at_ 2 (v:= .pointer none) rfl;clear h z y;go_enter Tryz.func71,Tryz.ntmps71;go_wp2_with fail
 refine(Jqq _).mono ?_;rintro e w1 ⟨rfl,x⟩;subst x;go_wp2_with fail
 go_ret;exact⟨rfl,rfl⟩
set_option linter.unusedSimpArgs false in
theorem J4x{F:Nat ->Prop}{g room:Nat}{t:Tv}{A:Option Addr}{n c:Nat}{l:List Smp}(w:World)(h:StAt w F g room t)(h1:1<=t.tabs.length)(h3:t.tabs.length<=1000)(hl:Smps w A n l)(hn:1<=n/\n<=8)(hfew:∀i,i<t.tabs.length ->(t.tab i).length<=900000)(hg:∀s∈l,t.r.Gets s)(hev:∀i,i<t.tabs.length -> -9223372036854775808<=t.r.ev i/\t.r.ev i<=9223372036854775807)(hf:(t.put l).Few)(hneed:(t.put l).need<=(room:Int)):
  Cs 19 #[g,.slice A n c] w fun e w'=>e= .returned (0:Int)/\StAt w' (grow F w w') g room (t.put l)/\Chg F w w':=by
 have I:=zI (Jev w h);have m:=zI h.g;have u:=zI h.ins;have k:=zI h.room
 have hA:AIn (fun b=>b<w.heap.size) A:=fun a e=>by
  obtain⟨b,off,e',f,_⟩:=hl.get (j:=0) (by rw[hl.len];exact hn.1);rw[e'] at e;cases e;exact f
 obtain⟨gt,FT,H,hT,_,_⟩:=h.ex;have HC:=zI (Jic w hT);have G:=zI (fun W F' g' (hT':Jag W F' g' t) (hl':Smps W A n l) (hA':AIn (fun b=> ¬ F' b) A)=>Jzq (c:=c) W hT' h1 hl' hA' hn hfew hg hev);have x:(t.put l).tabs.length=t.tabs.length:=t.put_len l;have P:=zI (fun W F' g' (hT':Jag W F' g' (t.put l))=>Jjz W hT' (by rw[x];exact h1) hf);have d:=Jf7 hf (t.put l).tabs.length (qab _);have E:=zI (fun W=>Joo (t.put l).need W ⟨d.1,by have:=d.2;rw[x] at this;unfold Tv.need;rw[x];omega⟩);have HL:=zI hl;have HA:=zI hA;have HX:=zI H;have s1:=H.at_ 1 (v:= gt) rfl;have d1:decide ((room:Int)<(t.put l).need)=false:=qae (by omega);have d2: ¬ ((room:Int)<(t.put l).need):=by omega
 clear h H hT hf d hl hA hfew hg hev x hneed hn;generalize t.put l=t2 at*;go_enter Tryz.func19,Tryz.ntmps19;go_wp2_with fail
 refine I.out.mono ?_;rintro e w0 ⟨rfl,hw⟩;subst hw;go_wp2_with fail
 refine HC.out.mono ?_;rintro e w1 ⟨g',rfl,Z,Y⟩;have D:=zI (G.out w1 _ g' Z (HL.out.below Y) (fun a e hm=>by have:=HA.out a e;have:=hm.1;omega));have C:=zI Y;have Hc:=zI Z.g;clear Z Y;go_wp2_with fail
 refine D.out.mono ?_;rintro e w2 ⟨rfl,V,O⟩;have U:=zI (Chg.made C.out O);have y:=zI (HX.out.below U.out);have B:=zI (P.out w2.drew _ g' (V.below (qaa _ _).drew));have hJ:=zI V;clear V O s1;go_upto_region 7 with fail
 refine wp_region_held_drew (S:=(fun w'=>w'.cell? ⟨g,0,none⟩=some (.int .i64 (room:Int))/\w'.cell? ⟨g,2,none⟩=some (.pointer none)/\Below w2.heap.size w2 w')) (by kernel_rfl) ?_ (fun hHeld=> ?_)
 · exact⟨y.out.drew.at_ 0 rfl,y.out.drew.at_ 2 rfl,(qaa _ _).drew⟩
 refine tkE 0 ?_
 try simp only[qai,qag,qaf,Act.put,qac,qak,qal]
 refine tkE 2 ?_
 try simp only[qai,qag,qaf,Act.put,qac,qak,qal]
 refine tkE 3 ?_
 try simp only[qai,qag,qaf,Act.put,qac,qak,qal]
 refine tkE 4 ?_
 try simp only[qai,qag,qaf,Act.put,qac,qak,qal]
 refine tkE 5 ?_
 try simp only[qai,qag,qaf,Act.put,qac,qak,qal]
 refine tkE 8 ?_
 try simp only[qai,qag,qaf,Act.put,qac,qak,qal]
 refine tkE 9 ?_
 try simp only[qai,qag,qaf,Act.put,qac,qak,qal]
 refine tkE 10 ?_
 try simp only[qai,qag,qaf,Act.put,qac,qak,qal]
 refine tkE 11 ?_
 try simp only[qai,qag,qaf,Act.put,qac,qak,qal]
 refine tkE 12 ?_
 try simp only[qai,qag,qaf,Act.put,qac,qak,qal]
 refine wpAnyH_ready (rs:=[1]) (by kernel_rfl) (by simp) (AllReadyH.cons (o:=_) rfl (fun K hK=> ?_) AllReadyH.nil);go_simp
 go_at_call 32
 refine B.out.mono ?_;rintro e w3 ⟨rfl,N⟩;refine hK.out _ _ ?_ (fun hHeld=> ?_)
 · (have q:=(qaa w2.heap.size w2).drew.trans N;exact⟨(y.out.below q).at_ 0 rfl,(y.out.below q).at_ 2 rfl,q⟩)
 clear hK K
 try simp only[qai,qag,qaf,Act.put,qac,qak,qal]
 refine wpAnyH_ready (rs:=[6]) (by kernel_rfl) (by simp) (AllReadyH.cons (o:=_) rfl (fun K hK=> ?_) AllReadyH.nil);go_simp
 go_at_call 60
 refine(Jgq _).mono ?_;rintro e w4 ⟨rfl,rfl⟩;refine hK.out _ _ ?_ (fun hHeld=> ?_)
 · exact hHeld
 clear hK K
 try simp only[qai,qag,qaf,Act.put,qac,qak,qal]
 refine wpAnyH_ready (rs:=[7]) (by kernel_rfl) (by simp) (AllReadyH.cons (o:=_) rfl (fun K hK=> ?_) AllReadyH.nil);go_simp
 go_at_call 59
 refine(E.out _).mono ?_;rintro e w5 ⟨rfl,rfl⟩;refine hK.out _ _ ?_ (fun hHeld=> ?_)
 · exact hHeld
 clear hK K
 try simp only[qai,qag,qaf,Act.put,qac,qak,qal]
 refine tkE 13 ?_
 try simp only[qai,qag,qaf,Act.put,qac,qak,qal]
 refine tkE 14 ?_
 try simp only[qai,qag,qaf,Act.put,qac,qak,qal]
 refine tkE 15 ?_
 try simp only[qai,qag,qaf,Act.put,qac,qak,qal]
 refine tkE 16 ?_
 try simp only[qai,qag,qaf,Act.put,qac,qak,qal]
 refine tkE 17 ?_
 try simp only[qai,qag,qaf,Act.put,qac,qak,qal]
 refine tkE 18 ?_
 try simp only[qai,qag,qaf,Act.put,qac,qak,qal]
 refine tkE 19 ?_
 try simp only[qai,qag,qaf,Act.put,qac,qak,qal]
 refine tkE 20 ?_
 try simp only[qai,qag,qaf,Act.put,qac,qak,qal]
 refine skE 21 ?_
 try simp only[qai,qag,qaf,Act.put,qac,qak,qal]
 refine skE 22 ?_
 try simp only[qai,qag,qaf,Act.put,qac,qak,qal]
 refine skE 23 ?_
 try simp only[qai,qag,qaf,Act.put,qac,qak,qal]
 refine skE 24 ?_
 try simp only[qai,qag,qaf,Act.put,qac,qak,qal]
 refine skE 25 ?_
 try simp only[qai,qag,qaf,Act.put,qac,qak,qal]
 refine skE 26 ?_
 try simp only[qai,qag,qaf,Act.put,qac,qak,qal]
 refine skE 27 ?_
 try simp only[qai,qag,qaf,Act.put,qac,qak,qal]
 refine tkE 28 ?_
 try simp only[qai,qag,qaf,Act.put,qac,qak,qal]
 refine tkE 29 ?_
 try simp only[qai,qag,qaf,Act.put,qac,qak,qal]
 refine wpAnyH_done (by kernel_rfl) ?_ _;have q:Below w2.heap.size w2 w3:=hHeld.2.2;have T:=zI (y.out.below q);have M:=zI (hJ.out.below q);have L:=zI (U.out.trans (q.mono U.out.size));have x1:=T.out.at_ 1 (v:= gt) rfl;have f1:=T.out.free 1;clear q hHeld N;go_wp2_with fail
 refine(Jzx _ _ _).mono ?_;rintro e w6 ⟨rfl,rfl⟩;go_wp2_with fail
 go_ret;have Hd:=u.out _ m.out;have Ha:=L.out.size;have R:Chg (fun b=>b=g) w3 (w3.setCell ⟨g,1,none⟩ g'):=Chg.set w3 _ _ rfl;have J:=R.size;have p: ¬ made w w1 g:=fun hh=>by have:=hh.1;omega
 have Hb:=M.out.chg R (fun b f e=>by rw[e] at f;exact p f);refine⟨rfl,⟨⟨g',made w w1,T.out.set 1 _,Hb,p,fun b f=> .inr ⟨f.1,qar (M.out.ins b f) J⟩⟩,.inl m.out,Ins.grow u.out (qax Ha J),k.out⟩,?_⟩;exact(Chg.of_below L.out).trans R (fun b e=> .inl (by rw[e];exact m.out))
theorem Jzz(p:Value)(w:World):Cs 288 #[p,.pointer none] w (RS w (0:Int)):=by
 go_enter Tryz.func288,Tryz.ntmps288;go_wp2;go_ret;exact⟨rfl,rfl⟩
theorem Jz0{F:Nat ->Prop}{g room:Nat}{t:Tv}(w:World)(hr:room<=4096)(h:Jag w F g t)(h1:1<=t.tabs.length)(hf:t.Few)(hneed:t.need<=(room:Int)):
  Cs 219 #[(room:Int),g,.pointer none] w fun e w'=>∃g',e= .returned (.tuple #[(g':Nat),(0:Int)])/\StAt w' (made w w') g' room t/\Below w.heap.size w w':=by
 have m:=zI (Jic w h);have o:=zI (Jmv (room:Int) w (by omega));have x:=zI (fun W F' g' (hS:StAt W F' g' room t)=>Jzy W hS h1 hf h.few);have d1:decide ((room:Int)<t.need)=false:=qae (by omega);have d2: ¬ ((room:Int)<t.need):=by omega
 clear h hf h1 hneed;go_enter Tryz.func219,Tryz.ntmps219
 go_wp2_with (first
  | (go_at_call 38;refine o.out.mono ?_;rintro e w1 ⟨rfl,v⟩;subst v)
  | (go_at_call 288;refine(Jzz _ _).mono ?_;rintro e w1 ⟨rfl,v⟩;subst v))
 refine m.out.mono ?_;rintro e w1 ⟨gt,rfl,u,z⟩;have s:=(qaa w1.heap.size w1).alloc (qab _) (.cells #[(room:Int),gt,.pointer none] 110);have r:=zI (z.trans (s.mono z.size));have q:=zI (StAt.boxed (room:=room) u z.size hr);have n:=zI (x.out _ _ _ q.out);clear u z s
 go_wp2_with (first
  | (go_at_call 138;refine(Jqq _).mono ?_;rintro e w2 ⟨rfl,v⟩;subst v)
  | (go_at_call 289;refine n.out.mono ?_;rintro e w3 ⟨rfl,p⟩;have y:=zI p;clear p))
 go_ret2;have l:=r.out.size;have k:=y.out.size;exact⟨w1.heap.size,rfl,(q.out.below y.out).sub (fun b hb=>⟨hb.1,qar hb.2 k⟩) Ins.made,r.out.trans (y.out.mono l)⟩
abbrev Ja1 (g i:Nat) (now:Int) (nm:ByteArray) (A:Option Addr) (n c:Nat) (B:Option Addr) (c2:Nat) (E:Option Addr) (en ec:Nat):Array Value:=
 #[.int .u64 (g:Int),.int .u64 (i:Int),(now:Int),nm,.slice A n c,.slice B n c2,ByteArray.empty,(),(),(0:Int),(0:Int),.slice E en ec]
theorem Jbm{w:World}{b g i:Nat}{now:Int}{nm:ByteArray}{A:Option Addr}{n c:Nat}{B:Option Addr}{c2:Nat}{E:Option Addr}{en ec:Nat}(h:Bx w b 207 (Ja1 g i now nm A n c B c2 E en ec)):
  w.cell? ⟨b,0,none⟩=some (.int .u64 (g:Int))/\w.cell? ⟨b,1,none⟩=some (.int .u64 (i:Int))/\w.cell? ⟨b,2,none⟩=some (.int .i64 now)/\w.cell? ⟨b,3,none⟩=some (.string nm)/\w.cell? ⟨b,4,none⟩=some (.slice A n c)/\w.cell? ⟨b,5,none⟩=some (.slice B n c2)/\
   w.cell? ⟨b,6,none⟩=some (.string ByteArray.empty)/\w.cell? ⟨b,7,none⟩=some (.slice none 0 0)/\w.cell? ⟨b,8,none⟩=some (.slice none 0 0)/\w.cell? ⟨b,9,none⟩=some (.int .i64 0)/\w.cell? ⟨b,10,none⟩=some (.int .i64 0)/\w.cell? ⟨b,11,none⟩=some (.slice E en ec):=
 ⟨h.at_ 0 rfl,h.at_ 1 rfl,h.at_ 2 rfl,h.at_ 3 rfl,h.at_ 4 rfl,h.at_ 5 rfl,h.at_ 6 rfl,h.at_ 7 rfl,h.at_ 8 rfl,h.at_ 9 rfl,h.at_ 10 rfl,h.at_ 11 rfl⟩
theorem Jdr(n m:Int)(w:World)(h:0<=n/\n<=m):Cs 409 #[(n:Int),(m:Int)] w fun e w'=>e= .returned true/\w=w':=by
 have d1:decide ((0:Int)<=n)=true:=qaj h.1;have d2:decide (n<=m)=true:=qaj h.2;go_enter Tryz.func409,Tryz.ntmps409;go_wp2;go_ret;exact⟨rfl,rfl⟩
theorem Jz1(nm:ByteArray)(A:Option Addr)(n c:Nat)(ts:List Ti)(w:World)(hnm:nm.size<=maxLen)(h:Tis w A n ts)(hc:n<=c)(hck:Py.checkR nm.toList ts=(0,0)):
  Cs 410 #[polV nm A n c] w fun e w'=>e= .returned true/\Below w.heap.size w w':=by
 have z:Below w.heap.size w (w.alloc (.cells #[nm,.slice A n c] 101)):=(qaa _ w).alloc (qab _) _;have u:=zI (Py.check_any nm A n c ts _ hnm (h.below z) hc);rw[hck] at u;have y:=zI z;clear h z hck;go_enter Tryz.func410,Tryz.ntmps410;go_wp2_with fail
 refine u.out.mono ?_;rintro e w1 ⟨rfl,x⟩;have v:=zI (y.out.trans (x.mono y.out.size));clear x;go_wp2_with fail
 go_ret;exact⟨rfl,v.out⟩
section
variable (g i:Nat) (now:Int) (nm:ByteArray) (A:Option Addr) (n c:Nat) (B:Option Addr) (c2:Nat) (E:Option Addr) (en ec:Nat)
theorem Juy(w:World):Cs 329 #[.agg (Ja1 g i now nm A n c B c2 E en ec)] w fun e w'=>e= .returned false/\Below w.heap.size w w':=by
 have z:Below w.heap.size w (w.alloc (.cells (Ja1 g i now nm A n c B c2 E en ec) 207)):=(qaa _ w).alloc (qab _) _;have y:=zI z;clear z;go_enter Tryz.func329,Tryz.ntmps329;go_wp2_with fail
 go_ret;exact⟨rfl,y.out⟩
theorem Jwr(w:World):Cs 384 #[.agg (Ja1 g i now nm A n c B c2 E en ec)] w fun e w'=>e= .returned true/\Below w.heap.size w w':=by
 have x:Below w.heap.size w (w.alloc (.cells (Ja1 g i now nm A n c B c2 E en ec) 207)):=(qaa _ w).alloc (qab _) _;have b0:=Bx.new w 207 (Ja1 g i now nm A n c B c2 E en ec);have u:=zI x;have t:=zI b0;clear x b0;go_enter Tryz.func384,Tryz.ntmps384;go_wp2_with fail
 refine(Juy g i now nm A n c B c2 E en ec _).mono ?_;rintro e w1 ⟨rfl,z⟩;have y:=zI (t.out.below z);have s:=zI (u.out.trans (z.mono u.out.size));have x6:=y.out.at_ 8 (v:= ()) rfl;have x7:=y.out.at_ 9 (v:= (0:Int)) rfl;have x8:=y.out.at_ 10 (v:= (0:Int)) rfl;clear z;go_wp2_with fail
 go_ret;exact⟨rfl,s.out⟩
theorem Jz2(ts:List Ti)(fl:List Int)(w:World)(hg:1<=g)(hnow:0<=now/\now<=1099511627776)(hnm:nm.size<=maxLen)(h:Tis w A n ts)(hc:n<=c)(hck:Py.checkR nm.toList ts=(0,0))(hB:Ints w .i64 B n fl)(hfl:∀f∈fl,0<=f/\f<=4611686018427387904):
  Cs 383 #[.agg (Ja1 g i now nm A n c B c2 E en ec)] w fun e w'=>e= .returned true/\Below w.heap.size w w':=by
 have z:Below w.heap.size w (w.alloc (.cells (Ja1 g i now nm A n c B c2 E en ec) 207)):=(qaa _ w).alloc (qab _) _;have b0:=Bx.new w 207 (Ja1 g i now nm A n c B c2 E en ec);have p:=zI (Jz1 nm A n c ts _ hnm (h.below z) hc hck);have o:=zI (hB.below z);have m:=zI hfl;have l:=zI hB.len;have d:=zI (Jdr now 1099511627776);have a:=h.n_le;unfold maxLen at a;have d0:((g:Int)==0)=false:=by rw[qat];omega
 have Z:=zI b0;have u:=zI z;clear b0 z h hB hck hfl;go_enter Tryz.func383,Tryz.ntmps383;go_wp2_with fail
 refine(d.out _ hnow).mono ?_;rintro e w1 ⟨rfl,t⟩;subst t;go_wp2_with fail
 refine p.out.mono ?_;rintro e w1 ⟨rfl,y⟩;have x:=zI (Z.out.below y);have s:=zI (o.out.below y);have r:=zI (u.out.trans (y.mono u.out.size));have x4:=x.out.at_ 4 (v:= .slice A n c) rfl;have x5:=x.out.at_ 5 (v:= .slice B n c2) rfl;clear y;go_wp2_with fail
 obtain⟨wo,q⟩:=exE w1;rw[<- q] at x s r ⊢;clear x4 x5 q;go_loopw [33] (fun j wr=>∃k:Nat,k<=n/\j= .int .i64 (k:Int)/\wo=wr) (fun j _=>n - (intOf j).toNat)
 case atStart=>exact⟨0,qaq _,rfl,rfl⟩
 case round=>
  obtain⟨k,S,rfl,t⟩:=hrel;subst t;by_cases Y:k<n
  · have K:k<fl.length:=by rw[l.out];exact Y
    obtain⟨b,off,rfl,V,U⟩:=s.out.get K;have W:=zI (Jdr fl[k] 4611686018427387904 wo (m.out _ (qan K)));generalize fl[k]'K=f at*;go_wp2_with fail
    refine W.out.mono ?_;rintro e w2 ⟨rfl,t⟩;subst t;go_wp2_with fail
    go_roundw
    case rel=>exact⟨k+1,by omega,by go_num,trivial⟩
    case measure=>simp[intOf];omega
  · have T:k=n:=by omega
    go_wp2_with fail
    go_ret;exact⟨rfl,r.out⟩
end
structure En where
 id:Nat
 tier:Nat
 shard:Nat
 bl:List Int
structure Em where
 e:En
 A:Option Addr
 c:Nat
def Em.cells (x:Em):List Value:=[.int .u64 (x.e.id:Int),(x.e.tier:Int),(x.e.shard:Int),(0:Int),(x.e.bl.length:Int),.slice x.A x.e.bl.length x.c]
structure En.Ok (x:En) (id:Nat):Prop where
 id:1<=x.id/\x.id<=id
 tier:x.tier<=9
 shard:x.shard<=7
 len:1<=x.bl.length/\x.bl.length<=4096
 bl:∀b∈x.bl,0<=b/\b<=4095
structure Jid (w:World) (F:Nat ->Prop) (A:Option Addr) (n:Nat) (ms:List Em):Prop where
 sl:Sl w A (ms.flatMap Em.cells)
 len:ms.length=n
 row:∀m∈ms,Ints w .i64 m.A m.e.bl.length m.e.bl/\AIn F m.A
 inl:AIn F A
structure J78 (w:World) (b off:Nat) (x:Em):Prop where
 c0:w.cell? ⟨b,off,none⟩=some (.int .u64 (x.e.id:Int))
 c1:w.cell? ⟨b,off+1,none⟩=some (.int .i64 (x.e.tier:Int))
 c2:w.cell? ⟨b,off+2,none⟩=some (.int .i64 (x.e.shard:Int))
 c3:w.cell? ⟨b,off+3,none⟩=some (.int .i64 0)
 c4:w.cell? ⟨b,off+4,none⟩=some (.int .i64 (x.e.bl.length:Int))
 c5:w.cell? ⟨b,off+5,none⟩=some (.slice x.A x.e.bl.length x.c)
theorem Jqr(x:Em):x.cells.length=6:=rfl
theorem Jz3(l:List Em)(j:Nat)(hj:j<l.length)(q:Nat)(hq:q<6):(l.flatMap Em.cells)[j*6+q]? =l[j].cells[q]? :=by
 induction l generalizing j with
 | nil=>simp at hj
 | cons r s ih=>
   rw[qau];cases j with
   | zero=>
     rw[qcf (by rw[Jqr];omega)]
     simp
   | succ j=>
     rw[qb6 (by rw[Jqr];omega),Jqr,show(j+1)*6+q - 6=j*6+q from by omega,ih j (by simpa using hj)];rfl
theorem Jz4(l:List Em):(l.flatMap Em.cells).length=l.length*6:=by
 induction l with
 | nil=>rfl
 | cons a r ih=>rw[qau,qad,ih,Jqr,qa3];omega
theorem Jz5(l:List Em):∀u∈l.flatMap Em.cells,u.oneCell'=true:=by
 intro u y;obtain⟨r,_,z⟩:=qcs.1 y;simp[Em.cells] at z;rcases z with rfl | rfl | rfl | rfl | rfl | rfl<;>rfl
section
variable {w w':World} {F G:Nat ->Prop} {A:Option Addr} {n:Nat} {ms:List Em}
theorem Jid.get(h:Jid w F A n ms){j:Nat}(hj:j<ms.length):∃b off,A=some ⟨b,off,none⟩/\b<w.heap.size/\J78 w b (off+j*6) ms[j]:=by
 have y:ms.flatMap Em.cells≠[]:=by
  intro e;have:=Jz4 ms;rw[e] at this;simp only[qbo] at this;omega
 obtain⟨b,off,e,x,v⟩:=h.sl.at_ y;refine⟨b,off,e,x,?_⟩
 have X:∀q (hq:q<6),w.cell? ⟨b,off+j*6+q,none⟩=ms[j].cells[q]? :=fun q hq=>by
  have z:ms[j].cells[q]? =some (ms[j].cells[q]'(by rw[Jqr];exact hq)):=qah _;rw[z,qcd];exact v (j*6+q) _ (by rw[Jz3 ms j hj q hq,z])
 exact⟨X 0 (by omega),X 1 (by omega),X 2 (by omega),X 3 (by omega),X 4 (by omega),X 5 (by omega)⟩
theorem Jid.chg(h:Jid w F A n ms)(hc:Chg G w w')(hd:Dj F G):Jid w' F A n ms:=
 ⟨h.sl.chg hc (h.inl.dj hd),h.len,fun m hm=>⟨(h.row m hm).1.chg hc ((h.row m hm).2.dj hd),(h.row m hm).2⟩,h.inl⟩
theorem Jid.below(h:Jid w F A n ms)(hb:Below w.heap.size w w'):Jid w' F A n ms:=
 ⟨h.sl.below hb,h.len,fun m hm=>⟨(h.row m hm).1.below hb,(h.row m hm).2⟩,h.inl⟩
theorem Jid.sub(h:Jid w F A n ms)(hs:∀b,F b ->G b):Jid w G A n ms:=⟨h.sl,h.len,fun m hm=>⟨(h.row m hm).1,(h.row m hm).2.sub hs⟩,h.inl.sub hs⟩
end
theorem Jz6(g i:Nat)(now:Int)(nm:ByteArray)(A:Option Addr)(n c:Nat)(B:Option Addr)(c2:Nat)(E:Option Addr)(en ec:Nat)(x:Em)(w:World)(h:Ints w .i64 x.A x.e.bl.length x.e.bl)(hx:x.e.Ok i):
  Cs 385 #[.agg (Ja1 g i now nm A n c B c2 E en ec),.agg x.cells.toArray] w fun e w'=>e= .returned true/\Below w.heap.size w w':=by
 obtain⟨⟨id,tier,shard,bl⟩,A5,c5⟩:=x;have l:=hx.id;have d:=hx.tier;have a:=hx.shard;have s:=hx.len;have r:=zI hx.bl;dsimp only at h l d a s r;have b0:=Bx.new w 207 (Ja1 g i now nm A n c B c2 E en ec);have b1:=b0.alloc (.cells #[.int .u64 (id:Int),(tier:Int),(shard:Int),(0:Int),(bl.length:Int),.slice A5 bl.length c5] 312);have b2:=Bx.new (w.alloc (.cells (Ja1 g i now nm A n c B c2 E en ec) 207)) 312 #[.int .u64 (id:Int),(tier:Int),(shard:Int),(0:Int),(bl.length:Int),.slice A5 bl.length c5];have y:Below w.heap.size w ((w.alloc (.cells (Ja1 g i now nm A n c B c2 E en ec) 207)).alloc (.cells #[.int .u64 (id:Int),(tier:Int),(shard:Int),(0:Int),(bl.length:Int),.slice A5 bl.length c5] 312)):=((qaa _ w).alloc (qab _) _).alloc (by simp) _;have T:=zI (h.below y);have S:=zI h.len;obtain⟨k,Z⟩:=exE bl.length;unfold Em.cells;dsimp only;rw[<- Z] at b1 b2 y T s ⊢;have R:=zI Z;have Y:=zI y;have p:=zI b1;have z:=zI b2;have o:(w.alloc (.cells (Ja1 g i now nm A n c B c2 E en ec) 207)).heap.size=w.heap.size+1:=by simp
 rw[o] at z;clear b0 b1 b2 y h hx Z o;go_enter Tryz.func385,Tryz.ntmps385;go_wp2_with fail
 generalize hwo:((w.alloc (.cells (Ja1 g i now nm A n c B c2 E en ec) 207)).alloc (.cells #[.int .u64 (id:Int),(tier:Int),(shard:Int),(0:Int),(k:Int),.slice A5 k c5] 312))=wo at*;obtain⟨b1,u⟩:∃b,b=w.heap.size:=⟨_,rfl⟩;obtain⟨b2,t⟩:∃b,b=w.heap.size+1:=⟨_,rfl⟩;rw[<- t,<- u];rw[<- u] at p;rw[<- t] at z;clear hwo u t;go_loopw [11] (fun j wr=>∃q:Nat,q<=k/\j= .int .i64 (q:Int)/\wo=wr) (fun j _=>k - (intOf j).toNat)
 case atStart=>exact⟨0,qaq _,rfl,rfl⟩
 case round=>
  obtain⟨q,L,rfl,m⟩:=hrel;subst m;by_cases W:q<k
  · have K:q<bl.length:=by rw[<- R.out];exact W
    obtain⟨b,off,rfl,P,O⟩:=T.out.get K;have V:=zI (Jdr bl[q] 4095 wo (r.out _ (qan K)));generalize bl[q]'K=f at*;go_wp2_with fail
    refine V.out.mono ?_;rintro e w2 ⟨rfl,m⟩;subst m;go_wp2_with fail
    go_roundw
    case rel=>exact⟨q+1,by omega,by go_num,trivial⟩
    case measure=>simp[intOf];omega
  · have U:q=k:=by omega
    subst U;have N:=zI (Jdr (tier:Int) 9 wo (by omega));have M:=zI (Jdr (shard:Int) 7 wo (by omega));have x0:=z.out.at_ 0 (v:= .int .u64 (id:Int)) rfl;have x1:=z.out.at_ 1 (v:= (tier:Int)) rfl;have x2:=z.out.at_ 2 (v:= (shard:Int)) rfl;have x3:=z.out.at_ 3 (v:= (0:Int)) rfl;have x4:=z.out.at_ 4 (v:= (q:Int)) rfl;have x5:=z.out.at_ 5 (v:= .slice A5 q c5) rfl;have y1:=p.out.at_ 1 (v:= .int .u64 (i:Int)) rfl;have e1:decide ((1:Int)<=(id:Int))=true:=qaj (by omega);have e1':decide (1<=id)=true:=qaj (by omega);have e2:decide ((id:Int)<=(i:Int))=true:=qaj (by omega);have e2':decide (id<=i)=true:=qaj (by omega);have e3:decide ((1:Int)<=(q:Int))=true:=qaj (by omega);have e3':decide (1<=q)=true:=qaj (by omega);have e4:decide ((q:Int)<=4096)=true:=qaj (by omega);have e4':decide (q<=4096)=true:=qaj (by omega);go_wp2_with (go_at_call 409;refine(Jdr _ _ _ (by omega)).mono ?_;rintro e w2 ⟨rfl,m⟩;subst m)
    go_ret;exact⟨rfl,Y.out⟩
