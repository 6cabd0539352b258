/-
  Several texts in one: Engw, Engp, Engv.
-/
import Derived.Test.YtglmhddbhhcjdaaGreatDoorU43
import Derived.Test.YtglmhddbhhcjdaaGreatDoorU44
set_option maxRecDepth 100000
set_option linter.unusedSimpArgs false
set_option maxHeartbeats 4000000
namespace Go.Proofs.YtglmhddbhhcjdaaGreatDoor
open Go.RowKit
section
variable {w:World} {ge gs gl N C B D R gd gen id mp bk:Nat}
theorem J82(h:Bx w ge 71 (Jof N C B D R gd gen id mp bk gl gs)):
  Calls Tryz.prog 43 #[.pointer (some ⟨ge,0,none⟩)] w fun e w'=>e= .returned (.bool true)/\w=w':=by
 have x:=h.at_ 15 (v:= .bool true) rfl;clear h;go_enter Tryz.func43,Tryz.ntmps43;go_wp2_with fail
 go_ret;exact⟨rfl,rfl⟩
theorem Jog(ge:Nat)(w:World):Calls Tryz.prog 105 #[.pointer (some ⟨ge,0,none⟩),.int .i64 0] w fun e w'=>e= .returned (.int .i64 0)/\w=w':=by
 go_enter Tryz.func105,Tryz.ntmps105;go_wp2_with fail
 go_ret;exact⟨rfl,rfl⟩
theorem J03{d:Addr}{lg:Option Addr}{bad:Int}{g:Nat}(h:Bo w g (Jdg N C B D R d gen id mp bk lg bad)):
  Calls Tryz.prog 103 #[.pointer (some ⟨g,0,none⟩)] w fun e w'=>e= .returned (.pointer lg)/\w=w':=by
 have z:=zI (Jjh h);have x:=h.at_ 12 (v:= .pointer lg) rfl;clear h;go_enter Tryz.func103,Tryz.ntmps103;go_wp2_with fail
 refine z.out.mono ?_;rintro e w1 ⟨rfl,y⟩;subst y;go_wp2_with fail
 go_ret;exact⟨rfl,rfl⟩
end
section
variable {FB FD FT:Nat ->Prop} {ge gs gl N C B D R gd gen id mp bk q used:Nat} {ps:List Pm} {f:Int ->Option ByteArray} {t:Tv} {rs:List (List UInt8)}
theorem J04(w:World)(h:EngS w FB FD FT ge gs gl N C B D R gd gen id mp bk q used ps f t rs)(hq:q<=800000):
  Calls Tryz.prog 45 #[.pointer (some ⟨ge,0,none⟩)] w fun e w'=>e= .returned (.int .i64 0)/\LgW w FD w' gl gd N q f 2 16 gen used rs.length:=by
 have z:=zI (J03 h.sv.box);have y:=zI (J0z w h.sv.disk h.lg h.ngl.2.1 hq);clear h;go_enter Tryz.func45,Tryz.ntmps45;go_wp2_with fail
 refine z.out.mono ?_;rintro e w1 ⟨rfl,x⟩;subst x;go_wp2_with fail
 refine y.out.mono ?_;rintro e w2 ⟨rfl,v⟩;have u:=zI v;clear v;go_wp2_with fail
 refine(Jog ge w2).mono ?_;rintro e w3 ⟨rfl,x⟩;subst x;go_wp2_with fail
 go_ret;exact⟨rfl,u.out⟩
theorem Jwg(o:Ov)(A:Option Addr)(n c:Nat)(w:World)(h:EngS w FB FD FT ge gs gl N C B D R gd gen id mp bk q used ps f t rs)(hN:18<=N)(ho:o.Ok)(hl:Smps w A n o.l)(hg:gen<18446744073709551616)(hr:rs.length<65000)(hfit:used+wlN (opB o).length<=16)(hq:q<=800000):
  Calls Tryz.prog 44 #[.pointer (some ⟨ge,0,none⟩),opV o A n c] w fun e w'=>e= .returned (.int .i64 0)/\
   LgW w FD w' gl gd N (q+2*wlN (opB o).length) (Jb5 f (2+used) (wlL gen rs.length (opB o))) 2 16 gen (used+wlN (opB o).length) (rs.length+1):=by
 have z:=(qaa w.heap.size w).alloc (qab _) (.cells #[.int .i64 (o.kind:Int),.int .i64 o.n,.slice A n c] 115);have k:=zI (Jv0 o A n c _ ho (hl.below z));have x:=zI z;have j:=zI (fun W (hW:Below w.heap.size w W)=>J03 (h.sv.box.below hW));have i:=Jsf ho;have g:=zI (fun W b (hW:Below w.heap.size w W) (hs:W.cell? ⟨b,0,none⟩=some (.string (strOf (opB o))))=>J7t (opB o) b W (h.sv.disk.below hW) (h.lg.below hW) h.ngl.2.1 hs (by omega) hg hr hfit (by omega) (by omega) hq);have d:=zI h.sv.disk.ins;have a:=zI h.lg.lt;generalize strOf (opB o)=S at*;clear h ho hl i z;go_enter Tryz.func44,Tryz.ntmps44;go_wp2_with fail
 refine k.out.mono ?_;rintro e w1 ⟨rfl,v⟩;have y:=zI (x.out.trans (v.mono x.out.size));have u:=zI (j.out w1 y.out);clear v;go_wp2_with fail
 refine u.out.mono ?_;rintro e w2 ⟨rfl,Z⟩;subst Z;have s:=(qaa w1.heap.size w1).alloc (qab _) (.cells #[.string S] 9);have r:=zI (y.out.trans (s.mono y.out.size));have p:=zI (g.out _ w1.heap.size r.out ((Bx.new w1 9 #[.string S]).at_ 0 rfl));clear s;go_wp2_with fail
 refine p.out.mono ?_;rintro e w3 ⟨rfl,m⟩;have Y:=zI (m.back r.out d.out a.out);clear m;go_wp2_with fail
 refine(Jog ge w3).mono ?_;rintro e w4 ⟨rfl,Z⟩;subst Z;go_wp2_with fail
 go_ret;exact⟨rfl,Y.out⟩
end
section
variable {w w':World} {F:Nat ->Prop} {ge gd N C B D R gen q:Nat} {ps:List Pm} {f:Int ->Option ByteArray} {t t0:Tv} {rs:List (List UInt8)}
theorem J05{o:Ov}(h:o.Ok):wlN (opB o).length<=2:=by
 have:=Jsf h;unfold wlN;split<;>omega
theorem Jun{n:Int}:wlN (opB ⟨2,n,[]⟩).length=1:=by
 have:(opB ⟨2,n,[]⟩).length=10:=by unfold opB smsB;simp
 rw[this];rfl
theorem Jat.logged(h:Jat w F ge gd N C B D R gen q ps f t rs t0){FB FD FT:Nat ->Prop}{gs gl mp bk id q':Nat}{f':Int ->Option ByteArray}{rs':List (List UInt8)}(h1:EngS w FB FD FT ge gs gl N C B D R gd gen id mp bk q (layAll gen 0 rs).length ps f t rs)(h2:∀x,engF FB FD FT ge gl x ->F x)(h3:id<=100*gen)(h4:F mp)(hl:LgW w FD w' gl gd N q' f' 2 16 gen (layAll gen 0 rs').length rs'.length)(hf:∀z:Int,z<2\/18<=z ->f' z=f z)(hlog:Jc4 f' 2 gen rs'):
  Jat w' (grow F w w') ge gd N C B D R gen q' ps f' t rs' t0/\Chg F w w':=by
 have u:=h1.logged hl;refine⟨⟨⟨_,_,_,_,_,_,_,_,u,fun x v=> ?_,h3,.inl h4⟩,hlog,?_,h.good,h.need,h.lay,h.gen1,h.growlow,h.ins.grow hl.chg.size⟩,hl.chg.sub (fun x v=>v.elim (fun y=>h2 x (.inr (.inr (.inr (.inl y))))) (fun y=>h2 x (.inr (.inl y))))⟩
 · rcases v with v | v | v | v | v
   · exact .inl (h2 x (.inl v))
   · exact .inl (h2 x (.inr (.inl v)))
   · exact .inl (h2 x (.inr (.inr (.inl v))))
   · exact v.imp (fun y=>h2 x (.inr (.inr (.inr (.inl y))))) (fun y=>y)
   · exact .inl (h2 x (.inr (.inr (.inr (.inr v)))))
 · obtain⟨i,now,nm,ts,fl,es,rsg,l,s,r⟩:=h.svd.ex
   exact⟨i,now,nm,ts,fl,es,rsg,l,s.logged h.lay hf hlog,r⟩
theorem Jmx(o:Ov)(A:Option Addr)(n c:Nat)(w:World)(h:Jat w F ge gd N C B D R gen q ps f t rs t0)(ho:o.Ok)(hl:Smps w A n o.l)(hfit:(layAll gen 0 rs).length+wlN (opB o).length<=16)(hq:q<=800000):
  Calls Tryz.prog 44 #[.pointer (some ⟨ge,0,none⟩),opV o A n c] w fun e w'=>e= .returned (.int .i64 0)/\∃f',Jat w' (grow F w w') ge gd N C B D R gen (q+4) ps f' t (rs++[opB o]) t0/\Chg F w w':=by
 obtain⟨FB,FD,FT,gs,gl,mp,bk,id,x,s,r,p⟩:=h.ex;have m:=J05 ho;have v:=h.lay.n;have u:=h.gen1;have k:=Jsf ho;refine(Jwg o A n c w x (by omega) ho hl (by omega) (by have:=h.log.few;omega) hfit hq).mono ?_;rintro e w' ⟨rfl,j⟩;have y:(layAll gen 0 (rs++[opB o])).length=(layAll gen 0 rs).length+wlN (opB o).length:=by rw[Jfb,qac,Jdy]
 have:=h.logged (rs':=rs++[opB o]) x s r p (by rw[y,qac];exact j) (fun z hz=>Jes _ _ _ _ (by rw[Jdy];omega)) (h.log.put (opB o) (by omega) hfit);exact⟨rfl,_,this.1.up (by omega),this.2⟩
theorem Jq2(w:World)(h:Jat w F ge gd N C B D R gen q ps f t rs t0)(hq:q<=800000):
  Calls Tryz.prog 45 #[.pointer (some ⟨ge,0,none⟩)] w fun e w'=>e= .returned (.int .i64 0)/\Jat w' (grow F w w') ge gd N C B D R gen q ps f t rs t0/\Chg F w w':=by
 obtain⟨FB,FD,FT,gs,gl,mp,bk,id,z,y,x,v⟩:=h.ex;refine(J04 w z hq).mono ?_;rintro e w' ⟨rfl,u⟩;exact⟨rfl,h.logged z y x v u (fun _ _=>rfl) h.log⟩
theorem Jq3(w:World)(h:Jat w F ge gd N C B D R gen q ps f t rs t0):Calls Tryz.prog 43 #[.pointer (some ⟨ge,0,none⟩)] w fun e w'=>e= .returned (.bool true)/\w=w':=by
 obtain⟨FB,FD,FT,gs,gl,mp,bk,id,z,_⟩:=h.ex;exact J82 z.bx
end
section
variable {w w1 w' w2:World} {F:Nat ->Prop} {ge gd N C B D R gen q:Nat} {ps:List Pm} {f:Int ->Option ByteArray} {t t0:Tv} {rs:List (List UInt8)}
theorem Jat.seq{q':Nat}{f':Int ->Option ByteArray}{t':Tv}{rs':List (List UInt8)}(hc:Chg F w w1)(h:Jat w2 (grow (grow F w w1) w1 w2) ge gd N C B D R gen q' ps f' t' rs' t0)(k:Chg (grow F w w1) w1 w2):Jat w2 (grow F w w2) ge gd N C B D R gen q' ps f' t' rs' t0/\Chg F w w2:=by
 rw[grow_grow F hc.size k.size] at h;exact⟨h,hc.seq k⟩
theorem Jat.stated(h:Jat w F ge gd N C B D R gen q ps f t rs t0){FB FD FT:Nat ->Prop}{gs gl mp bk id:Nat}{t':Tv}(h1:EngS w FB FD FT ge gs gl N C B D R gd gen id mp bk q (layAll gen 0 rs).length ps f t rs)(h2:∀x,engF FB FD FT ge gl x ->F x)(h3:id<=100*gen)(h4:F mp)(hs:StAt w' (grow FT w w') gs R t')(hc:Chg FT w w')(hg:t'.Good)(hn:t'.need<=(R:Int)):Jat w' (grow F w w') ge gd N C B D R gen q ps f t' rs t0/\Chg F w w':=by
 refine⟨⟨⟨_,_,_,_,_,_,_,_,h1.stated hs hc,fun x z=> ?_,h3,.inl h4⟩,h.log,h.svd,hg,hn,h.lay,h.gen1,h.growlow,h.ins.grow hc.size⟩,hc.sub (fun x z=>h2 x (.inr (.inr (.inr (.inr z)))))⟩;rcases z with z | z | z | z | z
 · exact .inl (h2 x (.inl z))
 · exact .inl (h2 x (.inr (.inl z)))
 · exact .inl (h2 x (.inr (.inr (.inl z))))
 · exact .inl (h2 x (.inr (.inr (.inr (.inl z)))))
 · exact z.imp (fun y=>h2 x (.inr (.inr (.inr (.inr y))))) (fun y=>y)
theorem Jat.grown(h:Jat w F ge gd N C B D R gen q ps f t rs t0)(hb:Below w.heap.size w w'):Jat w' (grow F w w') ge gd N C B D R gen q ps f t rs t0/\Chg F w w':=⟨(h.below hb).mono (fun _=> .inl) h.growlow (h.ins.grow hb.size),Chg.of_below hb⟩
theorem Gets.fine{r:Rch}{s:Smp}(h:r.Gets s)(hn:r.now<=1099511627776):s.Fine:=by
 have z:=h.tm;refine⟨h.ok,h.nm,?_,by omega⟩;have h:=h.nm;unfold Jaf at h;simp only[qcx,qce] at h;exact h.1.2
def Jlc (R:Nat) (t:Tv) (l:List Smp) (r:Int) (t':Tv) (rs rs':List (List UInt8)):Prop:=
 (r=0/\t.r.putErr l=0/\(t.put l).need<=(R:Int)/\t'=t.put l/\rs'=rs++[opB ⟨1,0,l⟩])\/(r≠0/\t'=t/\rs'=rs/\(r=t.r.putErr l\/t.r.putErr l=0/\r=20/\(R:Int)<(t.put l).need))
end
section
variable {F:Nat ->Prop} {ge gd N C B D R gen q:Nat} {ps:List Pm} {f:Int ->Option ByteArray} {t t0:Tv} {rs:List (List UInt8)}
theorem J7v(l:List Smp)(A:Option Addr)(n c:Nat)(w:World)(h:Jat w F ge gd N C B D R gen q ps f t rs t0)(hl:Smps w A n l)(hA:1<=l.length ->AIn (fun b=> ¬ F b) A)(hfew:∀i,i<t.tabs.length ->(t.tab i).length<=9000)(hfit:(layAll gen 0 rs).length+2<=16)(hq:q<=700000):
  Calls Tryz.prog 113 #[.pointer (some ⟨ge,0,none⟩),.slice A n c] w fun e w'=>∃r f' t' rs',e= .returned (.tuple #[.int .i64 r,.bool false])/\Jat w' (grow F w w') ge gd N C B D R gen (q+4) ps f' t' rs' t0/\Chg F w w'/\Jlc R t l r t' rs rs':=by
 obtain⟨FB,FD,FT,gs,gl,mp,bk,id,Y,h2,h3,h4⟩:=h.ex;have x14:=Y.bx.at_ 14 (v:= .pointer (some ⟨gs,0,none⟩)) rfl;have o:=h.good.n;have HE:=zI h;by_cases u:t.r.putErr l≠0
 · have P:=zI (J00 (c:=c) w Y.st o.1 hl u)
   have hJ:=zI u;have d1:((t.r.putErr l)==0)=false:=by rw[qba];exact u
   generalize hz:t.r.putErr l=z at*;have HZ:=zI hz;clear h Y h2 h3 h4 hl hA hfew hfit u o hz;go_enter Tryz.func113,Tryz.ntmps113;go_wp2_with fail
   refine P.out.mono ?_;rintro e w1 ⟨rfl,m⟩;have O:=zI (HE.out.grown m);clear m x14;go_wp2_with fail
   go_ret2;exact⟨z,f,t,rs,rfl,O.out.1.up (by omega),O.out.2,.inr ⟨hJ.out,rfl,rfl,.inl HZ.out.symm⟩⟩
 · have k:t.r.putErr l=0:=Classical.not_not.1 u
   obtain⟨j,U,y⟩:=Rch.putErr_zero hl.ok k;have V:=hl.len;have g:∀i,i<t.tabs.length -> -9223372036854775808<=t.r.ev i/\t.r.ev i<=9223372036854775807:=fun i hi=>by have:=h.good.ev hi;omega
   have x:(t.put l).Good:=Jui (N:=9000) h.good y hfew (by omega);have d:∀i,i<t.tabs.length ->(t.tab i).length<=900000:=fun i hi=>by have:=hfew i hi;omega
   have M:=zI k;by_cases a:(R:Int)<(t.put l).need
   · have P:=zI (Jwf (c:=c) w Y.st o.1 (by omega) hl (by omega) d y g x.rare a)
     have T:=zI a;clear h Y h2 h3 h4 hl hA hfew hfit u k o j U y V g x d a;go_enter Tryz.func113,Tryz.ntmps113;go_wp2_with fail
     refine P.out.mono ?_;rintro e w1 ⟨rfl,m⟩;have O:=zI (HE.out.grown m);clear m x14;go_wp2_with fail
     go_ret2;exact⟨20,f,t,rs,rfl,O.out.1.up (by omega),O.out.2,.inr ⟨by omega,rfl,rfl,.inr ⟨M.out,rfl,T.out⟩⟩⟩
   · have p:(t.put l).need<=(R:Int):=by omega
     have T:=zI p;have P:=zI (J3g (c:=c) w Y.st o.1 (by omega) hl (by omega) d y g x.rare p);have Ha:=zI (fun w' (hs:StAt w' (grow FT w w') gs R (t.put l)) (hc:Chg FT w w')=>h.stated Y h2 h3 h4 hs hc x p);have S:(⟨1,0,l⟩:Ov).Ok:=⟨fun s hs=>Gets.fine (y s hs) h.good.now.2,.inl ⟨rfl,rfl,j,U⟩⟩;have Hb:=J05 S;have Hc:=zI (fun W F' (hE:Jat W F' ge gd N C B D R gen q ps f (t.put l) rs t0) (hS:Smps W A n l)=>show Calls Tryz.prog 44 #[.pointer (some ⟨ge,0,none⟩),.agg #[.int .i64 1,.int .i64 0,.slice A n c]] W fun e w'=>e= .returned (.int .i64 0)/\∃f',Jat w' (grow F' W w') ge gd N C B D R gen (q+4) ps f' (t.put l) (rs++[opB ⟨1,0,l⟩]) t0/\Chg F' W w' from Jmx ⟨1,0,l⟩ A n c W hE S hS (by omega) (by omega));have Hd:=zI (fun w' (hc:Chg F w w')=>hl.chg hc (hA j));clear h Y h2 h3 h4 hl hA hfew hfit u k o j U y V g x d a p S Hb;generalize ht2:t.put l=t2 at*;have L:=zI ht2;clear ht2;go_enter Tryz.func113,Tryz.ntmps113;go_wp2_with fail
     refine P.out.mono ?_;rintro e w1 ⟨rfl,K,J⟩;have Z:=Ha.out w1 K J;have He:=zI Z.2;have I:=zI (Hc.out w1 _ Z.1 (Hd.out w1 Z.2));clear K J Z x14;go_wp2_with fail
     refine I.out.mono ?_;rintro e w2 ⟨rfl,f',H,G⟩;have E:=zI (H.seq He.out G);clear H G;go_wp2_with fail
     go_ret2;exact⟨0,f',t2,_,rfl,E.out.1,E.out.2,.inl ⟨rfl,M.out,by rw[L.out];exact T.out,L.out.symm,rfl⟩⟩
theorem J4p(k:Int)(w:World)(h:Jat w F ge gd N C B D R gen q ps f t rs t0)(hk:0<=k/\t.r.now+k<=1099511627776)(hfs:t.r.fs.length≠1)(hg:(t.tick k).Good)(hn:(t.tick k).need<=(R:Int))(hfit:(layAll gen 0 rs).length+1<=16)(hq:q<=700000):
  Calls Tryz.prog 14 #[.pointer (some ⟨ge,0,none⟩),.int .i64 k] w fun e w'=>e= .returned (.int .i64 0)/\∃f',Jat w' (grow F w w') ge gd N C B D R gen (q+4) ps f' (t.tick k) (rs++[opB ⟨2,k,[]⟩]) t0/\Chg F w w':=by
 have Z:=zI (Jq3 w h);obtain⟨FB,FD,FT,gs,gl,mp,bk,id,a,M,L,K⟩:=h.ex;have x14:=a.bx.at_ 14 (v:= .pointer (some ⟨gs,0,none⟩)) rfl;have z:=h.good.now;have Y:=zI (J02 k w a.st h.good.n.1 hk z hfs (fun i hi=>by have:=h.good.few i hi;omega));have V:=zI (fun w' (hs:StAt w' (grow FT w w') gs R (t.tick k)) (hc:Chg FT w w')=>h.stated a M L K hs hc hg hn);have u:(⟨2,k,[]⟩:Ov).Ok:=⟨(fun s hs=>by cases hs),.inr ⟨rfl,hk.1,by have:=hk.2;show k<=_;omega,rfl⟩⟩;have U:=Jun (n:=k);have T:=zI (fun W F' (y:Jat W F' ge gd N C B D R gen q ps f (t.tick k) rs t0)=>show Calls Tryz.prog 44 #[.pointer (some ⟨ge,0,none⟩),.agg #[.int .i64 2,.int .i64 k,.slice none 0 0]] W fun e w'=>e= .returned (.int .i64 0)/\∃f',Jat w' (grow F' W w') ge gd N C B D R gen (q+4) ps f' (t.tick k) (rs++[opB ⟨2,k,[]⟩]) t0/\Chg F' W w' from Jmx ⟨2,k,[]⟩ none 0 0 W y u ⟨Sl.nil _ _,rfl,by unfold maxLen;omega,(fun s hs=>by cases hs)⟩ (by omega) (by omega));have S:=zI (fun W F' f' rs' (y:Jat W F' ge gd N C B D R gen (q+4) ps f' (t.tick k) rs' t0)=>Jq2 W y (by omega));clear h a M L K hk hfs hg hn hfit u U z;generalize t.tick k=t2 at*;go_enter Tryz.func14,Tryz.ntmps14;go_wp2_with fail
 refine Z.out.mono ?_;rintro e w0 ⟨rfl,J⟩;subst J;go_wp2_with fail
 refine Y.out.mono ?_;rintro e w1 ⟨rfl,p,o⟩;have x:=V.out w1 p o;have P:=zI x.2;have m:=zI (T.out w1 _ x.1);clear p o x x14;go_wp2_with fail
 refine m.out.mono ?_;rintro e w2 ⟨rfl,f',l,j⟩;have y:=l.seq P.out j;have O:=zI y.2;have g:=zI (S.out w2 _ _ _ y.1);clear l j y;go_wp2_with fail
 refine g.out.mono ?_;rintro e w3 ⟨rfl,d,c⟩;have b:=zI (d.seq O.out c);clear d c;go_wp2_with fail
 go_ret;exact⟨rfl,f',b.out.1,b.out.2⟩
end
theorem J7w{w:World}{g N C B D R gd gen id mp bk gl gs:Nat}{T:TypeId}{cs:Array Value}(hb:Bo w g (Jdg N C B D R ⟨gd,0,none⟩ gen id mp bk (some ⟨gl,0,none⟩) 0))(h:Bx w g T cs)(hs:cs.size=16)(h14:cs[14]? =some (.pointer (some ⟨gs,0,none⟩)))(h15:cs[15]? =some (.bool true)):
  Bx w g T (Jof N C B D R gd gen id mp bk gl gs):=by
 obtain⟨T2,more,y⟩:=hb.ex;have e:=h.blk.symm.trans y.blk;injection e with e;injection e with e1 e2;subst e1;subst e2;have x:more.size=2:=by simp at hs;omega
 obtain⟨l⟩:=more
 match l,x with
 | [a,b],_=>
   have v:a= .pointer (some ⟨gs,0,none⟩):=by simpa using h14
   have z:b= .bool true:=by simpa using h15
   subst v;subst z
   simpa using h
theorem J7x{o0 o1:Option (Nat×Nat×Nat)}{k N L:Nat}(h:bsts o0 o1 2=(k,N,L)):(∀x,o0=some x ->x.1<=k)/\∀x,o1=some x ->x.1<=k:=by
 have e:bst (bst (0,0,0) o0) o1=(k,N,L):=h;have k1:(bst (bst (0,0,0) o0) o1).1=k:=by rw[e]
 have mono:∀ (y:Nat×Nat×Nat) (o:Option (Nat×Nat×Nat)),y.1<=(bst y o).1/\∀x,o=some x ->x.1<=(bst y o).1:=by
  intro y o;cases o with
  | none=>exact⟨qab _,fun x hx=>by cases hx⟩
  | some z=>
    unfold bst;dsimp only;split
    · exact⟨by omega,fun x hx=>by cases hx;exact qab _⟩
    · exact⟨qab _,fun x hx=>by cases hx;omega⟩
 have m0:=mono (0,0,0) o0;have m1:=mono (bst (0,0,0) o0) o1;exact⟨fun x hx=>by have:=m0.2 x hx;have:=m1.1;omega,fun x hx=>by have:=m1.2 x hx;omega⟩
section
variable {F:Nat ->Prop} {ge gd N C B D R gen q:Nat} {f:Int ->Option ByteArray} {t t0:Tv} {rs:List (List UInt8)}
theorem Jat.saved{w w':World}(h:Jat w F ge gd N C B D R gen q [] f t rs t0){FB FD FT FB' FD':Nat ->Prop}{gs gl mp bk id mp' bk' q' gl':Nat}{v:SvV}{ps:List Pm}(h1:EngS w FB FD FT ge gs gl N C B D R gd gen id mp bk q (layAll gen 0 rs).length [] f t rs)(h2:∀x,engF FB FD FT ge gl x ->F x)(h3:id<=100*gen)(hv:SvG D N ⟨id,[],f,[]⟩ (Jak t t.tabs.length) v)(hs:Jit w' FB' FD' ge N C B D R gd (gen+1) mp' bk' q' gl' v ps t)(ht:SvT w w' FB FD FB' FD' ge)(hm:w.heap.size<=mp')(hl:w.heap.size<=gl'/\ ¬ FB' gl'/\ ¬ FD' gl')(hg:gen+1<5000):
  Jat w' (grow F w w') ge gd N C B D R (gen+1) q' ps (savF B N t (gen+1) v) t [] (t.withFs t.r.all)/\Chg F w w':=by
 have k:Bx w' ge 71 (Jof N C B D R gd (gen+1) v.id mp' bk' gl' gs):=by
  obtain⟨cs',z,a,b⟩:=ht.tl _ _ h1.bx;exact J7w hs.st.box z (by rw[a];rfl) (by rw[b 14 (by omega)];rfl) (by rw[b 15 (by omega)];rfl)
 have Z:=h1.bx.lt;have u:∀x,FT x ->Apart FB' FD' ge w' x:=fun x z=>ht.apart (h1.ft x z).1;have s:=h1.st.ins;have j:StAt w' FT gs R t:=h1.st.chg ht.chg (fun x z hf=>Apart.not x (h1.ft x z).1 hf);have p:=hv.id;have Y:=h.good.wv.n
 have W:EngS w' FB' FD' FT ge gs gl' N C B D R gd (gen+1) v.id mp' bk' q' (layAll (gen+1) 0 []).length ps (savF B N t (gen+1) v) t []:=
  ⟨hs.st,k,j,hs.log,fun x z=>⟨u x z,fun e=>by have:=s x z;omega,fun e=>by have:=s x z;omega⟩,⟨hl.2.1,hl.2.2,by omega⟩⟩
 have o:=hs.st.map.lt;refine⟨⟨⟨_,_,_,_,_,_,_,_,W,fun x z=> ?_,?_,.inr ⟨hm,o⟩⟩,?_,?_,h.good,h.need,h.lay,⟨by omega,hg⟩,h.growlow,h.ins.grow ht.chg.size⟩,ht.chg.sub (fun x z=> ?_)⟩
 · rcases z with z | z | z | z | z
   · exact .inl (h2 x (.inl z))
   · exact .inr ⟨by omega,by have:=hs.log.lt;omega⟩
   · exact(ht.fb x z).imp (fun y=>h2 x (.inr (.inr (.inl y)))) (fun y=>y)
   · exact(ht.fd x z).imp (fun y=>h2 x (.inr (.inr (.inr (.inl y))))) (fun y=>y)
   · exact .inl (h2 x (.inr (.inr (.inr (.inr z)))))
 · have:v.id=id+(Jak t t.tabs.length).length:=p
   omega
 · have V:=h.lay.bd
   refine h.log.next.far fun q hq=> ?_;show setS (putN _ _ _ _) _ _ _=_;unfold setS;rw[if_neg (by omega),Jdk _ _ _ _ _ (.inl (by unfold Jb9;split<;>omega)),hv.low _ (by omega)]
 · obtain⟨i,now,nm,ts,fl,es,rsg,l,U,S⟩:=h.svd.ex
   obtain⟨o0,o1,g,d,c⟩:=U.sup;have m:=J7x c;refine⟨_,_,_,_,_,_,_,_,J5e h.lay h.good h.need hv (by show id<1000000;have:=h.gen1;omega) (by omega) ?_ h.log.next,?_⟩
   · by_cases T:gen % 2=0
     · rw[T];exact⟨o0,g,m.1⟩
     · rw[show gen % 2=1 from by omega];exact⟨o1,d,m.2⟩
   · rw[hv.wide]
     have:=h.good.needW;show _=Jbl (t.withFs t.r.all) (t.withFs t.r.all).tabs.length;rw[Jct];exact this
 · rcases z with rfl | z | z
   · exact h2 x (.inl rfl)
   · exact h2 x (.inr (.inr (.inl z)))
   · exact h2 x (.inr (.inr (.inr (.inl z))))
theorem J4q(w:World)(h:Jat w F ge gd N C B D R gen q [] f t rs t0)(hG:Glo w)(hg:gen+1<5000)(hq:q<=500000):
  Calls Tryz.prog 75 #[.pointer (some ⟨ge,0,none⟩)] w fun e w'=>e= .returned (.int .i64 0)/\∃ps f',Jat w' (grow F w w') ge gd N C B D R (gen+1) (q+10000) ps f' t [] (t.withFs t.r.all)/\Chg F w w':=by
 obtain⟨FB,FD,FT,gs,gl,mp,bk,id,o,n,a,W⟩:=h.ex;have m:=(qaa w.heap.size w).drew;have z:=o.below m;have p:=h.gen1;have g:=h.good.needW;have d:=h.need;have c:=h.lay.bd;have b:=zI (J0g w.drew z.sv h.lay z.st (fun x hx=>(z.ft x hx).1) h.good.want h.good.wv (hG.below m) (fun v s=>s.fits h.lay h.good h.need (by show id<1000000;omega) (by omega)) ⟨h.low ge (n ge (.inl rfl)),fun x hx=>h.low x (n x (hx.elim (fun y=> .inr (.inr (.inl y))) (fun y=> .inr (.inr (.inr (.inl y))))))⟩ (by omega) (by omega) (by show 0+needW _<=_;omega) hq)
 have V:=zI (fun w1 FB' FD' mp' bk' gl' ps v q' (s:SvG D N ⟨id,[],f,[]⟩ (Jak t t.tabs.length) v) (u:q'<=q+10000) (l:Jit w1 FB' FD' ge N C B D R gd (gen+1) mp' bk' q' gl' v ps t) (k:SvT w.drew w1 FB FD FB' FD' ge) (j:w.drew.heap.size<=mp') (i:w.drew.heap.size<=gl'/\ ¬ FB' gl'/\ ¬ FD' gl')=>
  show Jat w1 (grow F w w1) ge gd N C B D R (gen+1) (q+10000) ps (savF B N t (gen+1) v) t [] (t.withFs t.r.all)/\Chg F w w1 from have Z:=h.saved o n a s l ((SvT.of_below FB FD ge m).trans k) j i hg;⟨Z.1.up u,Z.2⟩)
 have x14:=o.bx.at_ 14 (v:= .pointer (some ⟨gs,0,none⟩)) rfl;have y14:=z.bx.at_ 14 (v:= .pointer (some ⟨gs,0,none⟩)) rfl;clear h o n a W m z p g d c hG hg hq;go_enter Tryz.func75,Tryz.ntmps75;go_upto_region 1 with fail
 go_region_with (first
  | (go_at_call 93
     refine b.out.mono ?_;rintro e w1 ⟨FB',FD',mp',bk',gl',ps,v,q',rfl,s,u,l,k,j,i⟩;have Y:=zI (V.out w1 FB' FD' mp' bk' gl' ps v q' s u l k j i);clear s u l k j i)
  | (go_at_call 105
     refine(Jog ge _).mono ?_;rintro e w2 ⟨rfl,U⟩;subst U))
 all_goals
  clear x14 y14;go_wp2_with fail
  go_ret;exact⟨rfl,ps,_,Y.out.1,Y.out.2⟩
theorem J4r(w:World)(h:Jat w F ge gd N C B D R gen q [] f t rs t0)(hG:Glo w)(hg:gen+1<5000)(hq:q<=500000):
  Calls Tryz.prog 25 #[.pointer (some ⟨ge,0,none⟩)] w fun e w'=>e= .returned (.int .i64 0)/\∃ps f',Jat w' (grow F w w') ge gd N C B D R (gen+1) (q+10000) ps f' t [] (t.withFs t.r.all)/\Chg F w w':=by
 have z:=zI (Jq3 w h);have y:=zI (J4q w h hG hg hq);clear h hG hg hq;go_enter Tryz.func25,Tryz.ntmps25;go_wp2_with fail
 refine z.out.mono ?_;rintro e w0 ⟨rfl,u⟩;subst u;go_wp2_with fail
 refine y.out.mono ?_;rintro e w1 ⟨rfl,ps,f',x,v⟩;have s:=zI x;have p:=zI v;clear x v;go_wp2_with fail
 go_ret;exact⟨rfl,ps,f',s.out,p.out⟩
end
end Go.Proofs.YtglmhddbhhcjdaaGreatDoor
