/-
  Several texts in one: Engw, Engp, Alv, Aliv, Audr, Audl.
-/
import Derived.Test.YtglmhddbhhcjdaaGreatDoorV43
import Derived.Test.YtglmhddbhhcjdaaGreatDoorV44
set_option maxRecDepth 100000
set_option linter.unusedSimpArgs false
set_option maxHeartbeats 4000000
namespace Go.Proofs.YtglmhddbhhcjdaaGreatDoor
open Go.RowKit
section
variable {w:World} {ge gs gl N C B D R gd gen id mp bk:Nat}
theorem J9s(h:Bx w ge 71 (Jsz N C B D R gd gen id mp bk gl gs)):
  Cs 43 #[ge] w fun e w'=>e= .returned true/\w=w':=by
 have x:=h.at_ 15 (v:= true) rfl;clear h;go_enter Tryz.func43,Tryz.ntmps43;go_wp2_with fail
 go_ret;exact⟨rfl,rfl⟩
theorem Ju1(ge:Nat)(w:World):Cs 105 #[ge,(0:Int)] w (RS w (0:Int)):=by
 go_enter Tryz.func105,Tryz.ntmps105;go_wp2_with fail
 go_ret;exact⟨rfl,rfl⟩
theorem J1l{d:Addr}{lg:Option Addr}{bad:Int}{g:Nat}(h:Bo w g (Jdv N C B D R d gen id mp bk lg bad)):
  Cs 103 #[g] w (RS w (.pointer lg)):=by
 have z:=zI (Jjj h);have x:=h.at_ 12 (v:= .pointer lg) rfl;clear h;go_enter Tryz.func103,Tryz.ntmps103;go_wp2_with fail
 refine z.out.mono ?_;rintro e w1 ⟨rfl,y⟩;subst y;go_wp2_with fail
 go_ret;exact⟨rfl,rfl⟩
end
section
variable {FB FD FT:Nat ->Prop} {ge gs gl N C B D R gd gen id mp bk q used:Nat} {ps:List Pm} {f:Int ->Option ByteArray} {t:Tv} {rs:List (List UInt8)}
theorem J1m(w:World)(h:EngS w FB FD FT ge gs gl N C B D R gd gen id mp bk q used ps f t rs)(hq:q<=800000):
  Cs 45 #[ge] w fun e w'=>e= .returned (0:Int)/\LgW w FD w' gl gd N q f 2 16 gen used rs.length:=by
 have z:=zI (J1l h.sv.box);have y:=zI (J1e w h.sv.disk h.lg h.ngl.2.1 hq);clear h;go_enter Tryz.func45,Tryz.ntmps45;go_wp2_with fail
 refine z.out.mono ?_;rintro e w1 ⟨rfl,x⟩;subst x;go_wp2_with fail
 refine y.out.mono ?_;rintro e w2 ⟨rfl,v⟩;have u:=zI v;clear v;go_wp2_with fail
 refine(Ju1 ge w2).mono ?_;rintro e w3 ⟨rfl,x⟩;subst x;go_wp2_with fail
 go_ret;exact⟨rfl,u.out⟩
theorem Jw0(o:Ov)(A:Option Addr)(n c:Nat)(w:World)(h:EngS w FB FD FT ge gs gl N C B D R gd gen id mp bk q used ps f t rs)(hN:18<=N)(ho:o.Ok)(hl:Smps w A n o.l)(hg:gen<18446744073709551616)(hr:rs.length<65000)(hfit:used+wlN (opB o).length<=16)(hq:q<=800000):
  Cs 44 #[ge,opV o A n c] w fun e w'=>e= .returned (0:Int)/\
   LgW w FD w' gl gd N (q+2*wlN (opB o).length) (Jb6 f (2+used) (wlL gen rs.length (opB o))) 2 16 gen (used+wlN (opB o).length) (rs.length+1):=by
 have z:=(qaa w.heap.size w).alloc (qab _) (.cells #[(o.kind:Int),(o.n:Int),.slice A n c] 115);have k:=zI (Jms o A n c _ ho (hl.below z));have x:=zI z;have j:=zI (fun W (hW:Below w.heap.size w W)=>J1l (h.sv.box.below hW));have i:=Jog ho;have g:=zI (fun W b (hW:Below w.heap.size w W) (hs:W.cell? ⟨b,0,none⟩=some (.string (strOf (opB o))))=>J8g (opB o) b W (h.sv.disk.below hW) (h.lg.below hW) h.ngl.2.1 hs (by omega) hg hr hfit (by omega) (by omega) hq);have d:=zI h.sv.disk.ins;have a:=zI h.lg.lt;generalize strOf (opB o)=S at*;clear h ho hl i z;go_enter Tryz.func44,Tryz.ntmps44;go_wp2_with fail
 refine k.out.mono ?_;rintro e w1 ⟨rfl,v⟩;have y:=zI (x.out.trans (v.mono x.out.size));have u:=zI (j.out w1 y.out);clear v;go_wp2_with fail
 refine u.out.mono ?_;rintro e w2 ⟨rfl,Z⟩;subst Z;have s:=(qaa w1.heap.size w1).alloc (qab _) (.cells #[S] 9);have r:=zI (y.out.trans (s.mono y.out.size));have p:=zI (g.out _ w1.heap.size r.out ((Bx.new w1 9 #[S]).at_ 0 rfl));clear s;go_wp2_with fail
 refine p.out.mono ?_;rintro e w3 ⟨rfl,m⟩;have Y:=zI (m.back r.out d.out a.out);clear m;go_wp2_with fail
 refine(Ju1 ge w3).mono ?_;rintro e w4 ⟨rfl,Z⟩;subst Z;go_wp2_with fail
 go_ret;exact⟨rfl,Y.out⟩
end
section
variable {w w':World} {F:Nat ->Prop} {ge gd N C B D R gen q:Nat} {ps:List Pm} {f:Int ->Option ByteArray} {t t0:Tv} {rs:List (List UInt8)}
theorem J1n{o:Ov}(h:o.Ok):wlN (opB o).length<=2:=by
 have:=Jog h;unfold wlN;split<;>omega
theorem Ju2{n:Int}:wlN (opB ⟨2,n,[]⟩).length=1:=by
 have:(opB ⟨2,n,[]⟩).length=10:=by unfold opB smsB;simp
 rw[this];rfl
theorem Jav.logged(h:Jav w F ge gd N C B D R gen q ps f t rs t0){FB FD FT:Nat ->Prop}{gs gl mp bk id q':Nat}{f':Int ->Option ByteArray}{rs':List (List UInt8)}(h1:EngS w FB FD FT ge gs gl N C B D R gd gen id mp bk q (layAll gen 0 rs).length ps f t rs)(h2:∀x,engF FB FD FT ge gl x ->F x)(h3:id<=100*gen)(h4:F mp)(hl:LgW w FD w' gl gd N q' f' 2 16 gen (layAll gen 0 rs').length rs'.length)(hf:∀z:Int,z<2\/18<=z ->f' z=f z)(hlog:Jdz f' 2 gen rs'):
  Jav w' (grow F w w') ge gd N C B D R gen q' ps f' t rs' t0/\Chg F w w':=by
 have u:=h1.logged hl;refine⟨⟨⟨_,_,_,_,_,_,_,_,u,fun x v=> ?_,h3,.inl h4⟩,hlog,?_,h.good,h.need,h.lay,h.gen1,h.growlow,h.ins.grow hl.chg.size⟩,hl.chg.sub (fun x v=>v.elim (fun y=>h2 x (.inr (.inr (.inr (.inl y))))) (fun y=>h2 x (.inr (.inl y))))⟩
 · rcases v with v | v | v | v | v
   · exact .inl (h2 x (.inl v))
   · exact .inl (h2 x (.inr (.inl v)))
   · exact .inl (h2 x (.inr (.inr (.inl v))))
   · exact v.imp (fun y=>h2 x (.inr (.inr (.inr (.inl y))))) (fun y=>y)
   · exact .inl (h2 x (.inr (.inr (.inr (.inr v)))))
 · obtain⟨i,now,nm,ts,fl,es,rsg,l,s,r⟩:=h.svd.ex
   exact⟨i,now,nm,ts,fl,es,rsg,l,s.logged h.lay hf hlog,r⟩
theorem Jm0(o:Ov)(A:Option Addr)(n c:Nat)(w:World)(h:Jav w F ge gd N C B D R gen q ps f t rs t0)(ho:o.Ok)(hl:Smps w A n o.l)(hfit:(layAll gen 0 rs).length+wlN (opB o).length<=16)(hq:q<=800000):
  Cs 44 #[ge,opV o A n c] w fun e w'=>e= .returned (0:Int)/\∃f',Jav w' (grow F w w') ge gd N C B D R gen (q+4) ps f' t (rs++[opB o]) t0/\Chg F w w':=by
 obtain⟨FB,FD,FT,gs,gl,mp,bk,id,x,s,r,p⟩:=h.ex;have m:=J1n ho;have v:=h.lay.n;have u:=h.gen1;have k:=Jog ho;refine(Jw0 o A n c w x (by omega) ho hl (by omega) (by have:=h.log.few;omega) hfit hq).mono ?_;rintro e w' ⟨rfl,j⟩;have y:(layAll gen 0 (rs++[opB o])).length=(layAll gen 0 rs).length+wlN (opB o).length:=by rw[Jfe,qad,Jdy]
 have:=h.logged (rs':=rs++[opB o]) x s r p (by rw[y,qad];exact j) (fun z hz=>Jeu _ _ _ _ (by rw[Jdy];omega)) (h.log.put (opB o) (by omega) hfit);exact⟨rfl,_,this.1.up (by omega),this.2⟩
theorem Jrf(w:World)(h:Jav w F ge gd N C B D R gen q ps f t rs t0)(hq:q<=800000):
  Cs 45 #[ge] w fun e w'=>e= .returned (0:Int)/\Jav w' (grow F w w') ge gd N C B D R gen q ps f t rs t0/\Chg F w w':=by
 obtain⟨FB,FD,FT,gs,gl,mp,bk,id,z,y,x,v⟩:=h.ex;refine(J1m w z hq).mono ?_;rintro e w' ⟨rfl,u⟩;exact⟨rfl,h.logged z y x v u (fun _ _=>rfl) h.log⟩
theorem Ju3(w:World)(h:Jav w F ge gd N C B D R gen q ps f t rs t0):Cs 43 #[ge] w fun e w'=>e= .returned true/\w=w':=by
 obtain⟨FB,FD,FT,gs,gl,mp,bk,id,z,_⟩:=h.ex;exact J9s z.bx
end
section
variable {w w1 w' w2:World} {F:Nat ->Prop} {ge gd N C B D R gen q:Nat} {ps:List Pm} {f:Int ->Option ByteArray} {t t0:Tv} {rs:List (List UInt8)}
theorem Jav.seq{q':Nat}{f':Int ->Option ByteArray}{t':Tv}{rs':List (List UInt8)}(hc:Chg F w w1)(h:Jav w2 (grow (grow F w w1) w1 w2) ge gd N C B D R gen q' ps f' t' rs' t0)(k:Chg (grow F w w1) w1 w2):Jav w2 (grow F w w2) ge gd N C B D R gen q' ps f' t' rs' t0/\Chg F w w2:=by
 rw[grow_grow F hc.size k.size] at h;exact⟨h,hc.seq k⟩
theorem Jav.stated(h:Jav w F ge gd N C B D R gen q ps f t rs t0){FB FD FT:Nat ->Prop}{gs gl mp bk id:Nat}{t':Tv}(h1:EngS w FB FD FT ge gs gl N C B D R gd gen id mp bk q (layAll gen 0 rs).length ps f t rs)(h2:∀x,engF FB FD FT ge gl x ->F x)(h3:id<=100*gen)(h4:F mp)(hs:StAt w' (grow FT w w') gs R t')(hc:Chg FT w w')(hg:t'.Good)(hn:t'.need<=(R:Int)):Jav w' (grow F w w') ge gd N C B D R gen q ps f t' rs t0/\Chg F w w':=by
 refine⟨⟨⟨_,_,_,_,_,_,_,_,h1.stated hs hc,fun x z=> ?_,h3,.inl h4⟩,h.log,h.svd,hg,hn,h.lay,h.gen1,h.growlow,h.ins.grow hc.size⟩,hc.sub (fun x z=>h2 x (.inr (.inr (.inr (.inr z)))))⟩;rcases z with z | z | z | z | z
 · exact .inl (h2 x (.inl z))
 · exact .inl (h2 x (.inr (.inl z)))
 · exact .inl (h2 x (.inr (.inr (.inl z))))
 · exact .inl (h2 x (.inr (.inr (.inr (.inl z)))))
 · exact z.imp (fun y=>h2 x (.inr (.inr (.inr (.inr y))))) (fun y=>y)
theorem Jav.grown(h:Jav w F ge gd N C B D R gen q ps f t rs t0)(hb:Below w.heap.size w w'):Jav w' (grow F w w') ge gd N C B D R gen q ps f t rs t0/\Chg F w w':=⟨(h.below hb).mono (fun _=> .inl) h.growlow (h.ins.grow hb.size),Chg.of_below hb⟩
theorem Gets.fine{r:Rch}{s:Smp}(h:r.Gets s)(hn:r.now<=1099511627776):s.Fine:=by
 have z:=h.tm;refine⟨h.ok,h.nm,?_,by omega⟩;have h:=h.nm;unfold Jaf at h;simp only[qb5,qba] at h;exact h.1.2
def Joo (R:Nat) (t:Tv) (l:List Smp) (r:Int) (t':Tv) (rs rs':List (List UInt8)):Prop:=
 (r=0/\t.r.putErr l=0/\(t.put l).need<=(R:Int)/\t'=t.put l/\rs'=rs++[opB ⟨1,0,l⟩])\/(r≠0/\t'=t/\rs'=rs/\(r=t.r.putErr l\/t.r.putErr l=0/\r=20/\(R:Int)<(t.put l).need))
end
section
variable {F:Nat ->Prop} {ge gd N C B D R gen q:Nat} {ps:List Pm} {f:Int ->Option ByteArray} {t t0:Tv} {rs:List (List UInt8)}
theorem J8k(l:List Smp)(A:Option Addr)(n c:Nat)(w:World)(h:Jav w F ge gd N C B D R gen q ps f t rs t0)(hl:Smps w A n l)(hA:1<=l.length ->AIn (fun b=> ¬ F b) A)(hfew:∀i,i<t.tabs.length ->(t.tab i).length<=9000)(hfit:(layAll gen 0 rs).length+2<=16)(hq:q<=700000):
  Cs 113 #[ge,.slice A n c] w fun e w'=>∃r f' t' rs',e= .returned (.tuple #[(r:Int),false])/\Jav w' (grow F w w') ge gd N C B D R gen (q+4) ps f' t' rs' t0/\Chg F w w'/\Joo R t l r t' rs rs':=by
 obtain⟨FB,FD,FT,gs,gl,mp,bk,id,Y,h2,h3,h4⟩:=h.ex;have x14:=Y.bx.at_ 14 (v:= gs) rfl;have o:=h.good.n;have HE:=zI h;by_cases u:t.r.putErr l≠0
 · have P:=zI (J1f (c:=c) w Y.st o.1 hl u)
   have hJ:=zI u;have d1:((t.r.putErr l)==0)=false:=by rw[qaw];exact u
   generalize hz:t.r.putErr l=z at*;have HZ:=zI hz;clear h Y h2 h3 h4 hl hA hfew hfit u o hz;go_enter Tryz.func113,Tryz.ntmps113;go_wp2_with fail
   refine P.out.mono ?_;rintro e w1 ⟨rfl,m⟩;have O:=zI (HE.out.grown m);clear m x14;go_wp2_with fail
   go_ret2;exact⟨z,f,t,rs,rfl,O.out.1.up (by omega),O.out.2,.inr ⟨hJ.out,rfl,rfl,.inl HZ.out.symm⟩⟩
 · have k:t.r.putErr l=0:=Classical.not_not.1 u
   obtain⟨j,U,y⟩:=Rch.putErr_zero hl.ok k;have V:=hl.len;have g:∀i,i<t.tabs.length -> -9223372036854775808<=t.r.ev i/\t.r.ev i<=9223372036854775807:=fun i hi=>by have:=h.good.ev hi;omega
   have x:(t.put l).Good:=Jom (N:=9000) h.good y hfew (by omega);have d:∀i,i<t.tabs.length ->(t.tab i).length<=900000:=fun i hi=>by have:=hfew i hi;omega
   have M:=zI k;by_cases a:(R:Int)<(t.put l).need
   · have P:=zI (Jwt (c:=c) w Y.st o.1 (by omega) hl (by omega) d y g x.rare a)
     have T:=zI a;clear h Y h2 h3 h4 hl hA hfew hfit u k o j U y V g x d a;go_enter Tryz.func113,Tryz.ntmps113;go_wp2_with fail
     refine P.out.mono ?_;rintro e w1 ⟨rfl,m⟩;have O:=zI (HE.out.grown m);clear m x14;go_wp2_with fail
     go_ret2;exact⟨20,f,t,rs,rfl,O.out.1.up (by omega),O.out.2,.inr ⟨by omega,rfl,rfl,.inr ⟨M.out,rfl,T.out⟩⟩⟩
   · have p:(t.put l).need<=(R:Int):=by omega
     have T:=zI p;have P:=zI (Jua (c:=c) w Y.st o.1 (by omega) hl (by omega) d y g x.rare p);have Ha:=zI (fun w' (hs:StAt w' (grow FT w w') gs R (t.put l)) (hc:Chg FT w w')=>h.stated Y h2 h3 h4 hs hc x p);have S:(⟨1,0,l⟩:Ov).Ok:=⟨fun s hs=>Gets.fine (y s hs) h.good.now.2,.inl ⟨rfl,rfl,j,U⟩⟩;have Hb:=J1n S;have Hc:=zI (fun W F' (hE:Jav W F' ge gd N C B D R gen q ps f (t.put l) rs t0) (hS:Smps W A n l)=>show Cs 44 #[ge,.agg #[(1:Int),(0:Int),.slice A n c]] W fun e w'=>e= .returned (0:Int)/\∃f',Jav w' (grow F' W w') ge gd N C B D R gen (q+4) ps f' (t.put l) (rs++[opB ⟨1,0,l⟩]) t0/\Chg F' W w' from Jm0 ⟨1,0,l⟩ A n c W hE S hS (by omega) (by omega));have Hd:=zI (fun w' (hc:Chg F w w')=>hl.chg hc (hA j));clear h Y h2 h3 h4 hl hA hfew hfit u k o j U y V g x d a p S Hb;generalize ht2:t.put l=t2 at*;have L:=zI ht2;clear ht2;go_enter Tryz.func113,Tryz.ntmps113;go_wp2_with fail
     refine P.out.mono ?_;rintro e w1 ⟨rfl,K,J⟩;have Z:=Ha.out w1 K J;have He:=zI Z.2;have I:=zI (Hc.out w1 _ Z.1 (Hd.out w1 Z.2));clear K J Z x14;go_wp2_with fail
     refine I.out.mono ?_;rintro e w2 ⟨rfl,f',H,G⟩;have E:=zI (H.seq He.out G);clear H G;go_wp2_with fail
     go_ret2;exact⟨0,f',t2,_,rfl,E.out.1,E.out.2,.inl ⟨rfl,M.out,by rw[L.out];exact T.out,L.out.symm,rfl⟩⟩
theorem J49(k:Int)(w:World)(h:Jav w F ge gd N C B D R gen q ps f t rs t0)(hk:0<=k/\t.r.now+k<=1099511627776)(hfs:t.r.fs.length≠1)(hg:(t.tick k).Good)(hn:(t.tick k).need<=(R:Int))(hfit:(layAll gen 0 rs).length+1<=16)(hq:q<=700000):
  Cs 14 #[ge,(k:Int)] w fun e w'=>e= .returned (0:Int)/\∃f',Jav w' (grow F w w') ge gd N C B D R gen (q+4) ps f' (t.tick k) (rs++[opB ⟨2,k,[]⟩]) t0/\Chg F w w':=by
 have Z:=zI (Ju3 w h);obtain⟨FB,FD,FT,gs,gl,mp,bk,id,a,M,L,K⟩:=h.ex;have x14:=a.bx.at_ 14 (v:= gs) rfl;have z:=h.good.now;have Y:=zI (Jqw k w a.st h.good.n.1 hk z hfs (fun i hi=>by have:=h.good.few i hi;omega));have V:=zI (fun w' (hs:StAt w' (grow FT w w') gs R (t.tick k)) (hc:Chg FT w w')=>h.stated a M L K hs hc hg hn);have u:(⟨2,k,[]⟩:Ov).Ok:=⟨(fun s hs=>by cases hs),.inr ⟨rfl,hk.1,by have:=hk.2;show k<=_;omega,rfl⟩⟩;have U:=Ju2 (n:=k);have T:=zI (fun W F' (y:Jav W F' ge gd N C B D R gen q ps f (t.tick k) rs t0)=>show Cs 44 #[ge,.agg #[(2:Int),(k:Int),.slice none 0 0]] W fun e w'=>e= .returned (0:Int)/\∃f',Jav w' (grow F' W w') ge gd N C B D R gen (q+4) ps f' (t.tick k) (rs++[opB ⟨2,k,[]⟩]) t0/\Chg F' W w' from Jm0 ⟨2,k,[]⟩ none 0 0 W y u ⟨Sl.nil _ _,rfl,by unfold maxLen;omega,(fun s hs=>by cases hs)⟩ (by omega) (by omega));have S:=zI (fun W F' f' rs' (y:Jav W F' ge gd N C B D R gen (q+4) ps f' (t.tick k) rs' t0)=>Jrf W y (by omega));clear h a M L K hk hfs hg hn hfit u U z;generalize t.tick k=t2 at*;go_enter Tryz.func14,Tryz.ntmps14;go_wp2_with fail
 refine Z.out.mono ?_;rintro e w0 ⟨rfl,J⟩;subst J;go_wp2_with fail
 refine Y.out.mono ?_;rintro e w1 ⟨rfl,p,o⟩;have x:=V.out w1 p o;have P:=zI x.2;have m:=zI (T.out w1 _ x.1);clear p o x x14;go_wp2_with fail
 refine m.out.mono ?_;rintro e w2 ⟨rfl,f',l,j⟩;have y:=l.seq P.out j;have O:=zI y.2;have g:=zI (S.out w2 _ _ _ y.1);clear l j y;go_wp2_with fail
 refine g.out.mono ?_;rintro e w3 ⟨rfl,d,c⟩;have b:=zI (d.seq O.out c);clear d c;go_wp2_with fail
 go_ret;exact⟨rfl,f',b.out.1,b.out.2⟩
end
theorem J5a:Jd3 90 10 28 38 26:=⟨by omega,rfl,rfl,rfl,rfl⟩
theorem Ju4{D N:Nat}{ps:List Pm}(h:Jk0 D N ps):∀k,k<=ps.length ->(usOf (ps.take k)).length=((ps.take k).flatMap fun p=>p.e.bl).length
 | 0,_=>by simp[usOf]
 | k+1,hk=>by
   obtain⟨z,y⟩:=h.at_ (k:=k) (by omega);rw[qak (by omega),Jia,Led.length_insAll z y,Ju4 h k (by omega),qay,qad]
   simp
theorem J5b(b:Option (List Int))(s:ByteArray)(hs:s=⟨#[108,105,118,101]⟩):Led.heldV (Led.w3 none b none) s.data.toList=b.getD []:=by
 subst hs;exact Led.hL3 none b none
theorem Jw1(ps:List Pm):(Jc4 ps).getD []=usOf ps:=by
 unfold Jc4;by_cases h:ps=[]
 · rw[qa2 h,h];rfl
 · rw[qav h];rfl
theorem Jw2:needW (Jam webT webT.tabs.length)=0:=by have:=Jaz.needW;rw[Jf6] at this;omega
theorem Jla{v v0:SvV}(h:SvG 38 90 v0 (Jam webT webT.tabs.length) v):v.es=[]:=by
 have e:Jam webT webT.tabs.length=[]:=by
  cases hx:Jam webT webT.tabs.length with
  | nil=>rfl
  | cons x r=>
    obtain⟨i,s,y,w,_,z⟩:=Jgr (t:=webT) (k:=webT.tabs.length) (x:=x) (by rw[hx];simp);rw[Jjm] at z;exact absurd rfl z
 rw[e] at h;exact qa1 h.es
def Ji7 (t:Tv):Nat ->Nat
 | 0=>0
 | k+1=>Ji7 t k+(t.tab k).length
def Tv.size (t:Tv):Nat:=Ji7 t t.tabs.length
theorem Jrg{t:Tv}{M:Nat}(h:∀i,i<t.tabs.length ->(t.tab i).length<=M):∀k,k<=t.tabs.length ->Ji7 t k<=k*M
 | 0,_=>by simp[Ji7]
 | k+1,hk=>by
   have z:=Jrg h k (by omega);have y:=h k (by omega);show Ji7 t k+(t.tab k).length<=_;rw[Nat.succ_mul];omega
theorem J8l{F:Nat ->Prop}{g:Nat}{t:Tv}(w:World)(h:Jae w F g t)(h1:1<=t.tabs.length)(hfew:∀i,i<t.tabs.length ->(t.tab i).length<=10000):
  Cs 33 #[g] w (RS w (t.size:Int)):=by
 have V:=h.few;have x:=fun k=>Jrg hfew k;obtain⟨b,off,cl,_,_,c4,_⟩:=h.focus 0 (by omega);have U:=zI (fun i a=>h.focus i a);have v:=zI (show t.size=Ji7 t t.tabs.length from rfl);obtain⟨N,q⟩:=exE t.tabs.length;rw[<- q] at V h1 c4 x v;have Z:=zI q;have p:=zI x;rw[v.out];clear h hfew q x v;go_enter Tryz.func33,Tryz.ntmps33;go_wp2_with fail
 go_loopw [3,13] (fun s j wr=>∃i z:Nat,i<=N/\j= .int .i64 (i:Int)/\s= .int .i64 (z:Int)/\z=Ji7 t i/\w=wr) (fun _ j _=>N - (intOf j).toNat)
 case atStart=>exact⟨0,0,qaq _,rfl,rfl,rfl,rfl⟩
 case round=>
  obtain⟨i,z,a,rfl,rfl,r,o⟩:=hrel;subst o;by_cases n:i<N
  · obtain⟨b2,off2,cl2,ga,gm,c42,_,Y,y,_,_⟩:=U.out i (by rw[<- Z.out];exact n)
    rw[<- Z.out] at c42;have l:=c4.symm.trans c42;cases l
    have u:=J16 y;obtain⟨m,f⟩:=exE ((t.tab i).length);rw[<- f] at u;have d:=zI u;have T:=p.out (i+1) (by omega);have W:=zI (show((z:Int)+(m:Int))=((z+m:Nat):Int)/\z+m=Ji7 t (i+1) from⟨by omega,by rw[r,f];rfl⟩)
    have S:z+m<=11000000:=by
     have h1:=W.out.2;have:(i+1)*10000<=1001*10000:=Nat.mul_le_mul_right _ (by omega);omega
    clear y c42 f T r u;go_wp2_with fail
    refine d.out.mono ?_;rintro e w1 ⟨rfl,o⟩;subst o;go_wp2_with fail
    go_roundw
    case rel=>exact⟨i+1,z+m,by omega,by go_num,by go_num,W.out.2,trivial⟩
    case measure=>simp[intOf];omega
  · have c:i=N:=by omega
    subst c;have R:=zI r;clear r;go_wp2_with fail
    go_ret;exact⟨by rw[R.out];rfl,rfl⟩
theorem J1o{F:Nat ->Prop}{g room:Nat}{t:Tv}(w:World)(h:StAt w F g room t):Cs 137 #[g] w fun e w'=>e= .returned false/\w=w':=by
 obtain⟨gt,FT,z,_,_,_⟩:=h.ex;have s2:=z.at_ 2 (v:= .pointer none) rfl;clear h z;go_enter Tryz.func137,Tryz.ntmps137;go_wp2_with fail
 go_ret;exact⟨rfl,rfl⟩
abbrev repV (gen live n sz:Nat):Value:= .agg #[.int .u64 (gen:Int),(live:Int),(0:Int),(n:Int),(sz:Int),false]
theorem Jlb{FB FD FS:Nat ->Prop}{gx N C B D R gd gen id mp bk q nP gs room n c:Nat}{A:Option Addr}{lg:Option Addr}{bad:Int}{pf:Nat ->Nat ->Option PRaw}{us:List Int}{b:Option (List Int)}{f:Int ->Option ByteArray}{t:Tv}(w:World)(h:SvS w FB FD gx N C B D R gd gen id mp bk q nP lg bad pf us none b none f)(hS:StAt w FS gs room t)(hg:t.Good):
  Cs 70 #[gx,gs,.slice A n c] w (RB w (repV gen (b.getD []).length n t.size)):=by
 obtain⟨w1,x⟩:=exE (w.alloc (.cells #[.int .u64 0,(0:Int),(0:Int),(0:Int),(0:Int),false] 57));have d:Below w.heap.size w w1:=by rw[x];exact(qaa _ _).alloc (qab _) _
 have L:Hid (Bx w1 w.heap.size 57 #[.int .u64 0,(0:Int),(0:Int),(0:Int),(0:Int),false]):=zI (by rw[x];exact Bx.new _ _ _);have K:=zI x;have u:=zI d;have J:=zI (fun W (hW:Below w.heap.size w W)=>J8d (h.box.below hW));have I:=zI (fun W (hW:Below w.heap.size w W)=>Jrb ⟨#[108,105,118,101]⟩ W (h.below hW) (by decide));have H:=zI (fun W (hW:Below w.heap.size w W)=>Jrb ⟨#[109,111,118,101]⟩ W (h.below hW) (by decide));have G:=zI (fun W (hW:Below w.heap.size w W)=>Jer W (hS.below hW));have F:=zI (fun W F' g' (hT:Jae W F' g' t)=>J8l W hT hg.n.1 hg.few);have E:=zI (fun W (hW:Below w.heap.size w W)=>J1o W (hS.below hW));have HL:=zI (J5b b ⟨#[108,105,118,101]⟩ rfl);have HM:=zI (show Led.heldV (Led.w3 none b none) (⟨#[109,111,118,101]⟩:ByteArray).data.toList=[] from Led.hM3 none b none);obtain⟨nl,s⟩:=exE ((b.getD []).length);have hJ:=zI s;rw[<- s];clear h hS hg x d s;go_enter Tryz.func70,Tryz.ntmps70;go_upto_region 1 with fail
 rw[<- K.out];have a:=zI (J.out w1 u.out);go_wp2_with fail
 refine a.out.mono ?_;rintro e w2 ⟨rfl,Z⟩;subst Z;have Y:=zI (I.out w1 u.out);go_wp2_with fail
 refine Y.out.mono ?_;rintro e w2 ⟨v2,rfl,r,p⟩;rw[HL.out,<- hJ.out] at r;obtain⟨A2,c2,rfl,_⟩:=Jap r;have o:=zI (u.out.trans (p.mono u.out.size));have Ha:=zI (L.out.below p);have V:=zI (H.out w2 o.out);clear r p;go_wp2_with fail
 refine V.out.mono ?_;rintro e w3 ⟨v3,rfl,m,l⟩;rw[HM.out] at m;obtain⟨A3,c3,rfl,_⟩:=Jap m;have k:=zI (o.out.trans (l.mono o.out.size));have Hb:=zI (Ha.out.below l);have U:=zI (G.out w3 k.out);clear m l;go_wp2_with fail
 refine U.out.mono ?_;rintro e w4 ⟨g4,rfl,T,j⟩;have S:=zI (k.out.trans (j.mono k.out.size));have z:=zI (Hb.out.below j);have P:=zI (F.out w4 _ g4 T);clear T j;go_wp2_with fail
 refine P.out.mono ?_;rintro e w5 ⟨rfl,Z⟩;subst Z;have O:=zI (E.out w4 S.out);obtain⟨sz,i⟩:=exE t.size;have Hc:=zI i;rw[<- i];clear i;go_wp2_with fail
 refine O.out.mono ?_;rintro e w5 ⟨rfl,Z⟩;subst Z;have r0:=z.out.at_ 0 rfl;have r1:=z.out.at_ 1 rfl;have r2:=z.out.at_ 2 rfl;have r3:=z.out.at_ 3 rfl;have r4:=z.out.at_ 4 rfl;have r5:=z.out.at_ 5 rfl;have f0:=z.out.free 0;have f1:=z.out.free 1;have f2:=z.out.free 2;have f3:=z.out.free 3;have f4:=z.out.free 4;have f5:=z.out.free 5;have Hd:=z.out.lt;go_wp2_with fail
 obtain⟨w9,g⟩:=exE (putC w4 w.heap.size 0 [.int .u64 (gen:Int),(nl:Int),(0:Int),(n:Int),(sz:Int),false]);have y:=Ja1 z.out [.int .u64 (gen:Int),(nl:Int),(0:Int),(n:Int),(sz:Int),false] rfl;have M:=Jao (B:=w.heap.size) [.int .u64 (gen:Int),(nl:Int),(0:Int),(n:Int),(sz:Int),false] (qab _) w4 0;rw[<- g] at y M;simp only[putC,qa9,Nat.reduceAdd] at g;rw[<- g];have q0:=y.at_ 0 rfl;have q1:=y.at_ 1 rfl;have q2:=y.at_ 2 rfl;have q3:=y.at_ 3 rfl;have q4:=y.at_ 4 rfl;have q5:=y.at_ 5 rfl;exact qa7 (v:=repV gen nl n sz) (by simp[results,Tryz.results70,go_sem,q0,q1,q2,q3,q4,q5]) rfl ⟨by rw[<- Hc.out],S.out.trans M⟩
abbrev repI (gen:Nat) (need:Int) (n sz:Nat):Value:= .agg #[.int .u64 (gen:Int),(need:Int),(0:Int),(n:Int),(sz:Int),false]
theorem J5c{D N:Nat}{ps:List Pm}{es:List En}(h:Jk0 D N ps)(he:ps.map Pm.e=es):((Jc4 ps).getD []).length=(es.flatMap En.bl).length:=by
 have z:=Ju4 h ps.length (qab _);rw[qb4] at z;rw[Jw1,z,<- he,List.flatMap_map]
theorem Jop{F:Nat ->Prop}{gd N C B D R gen q:Nat}{f:Int ->Option ByteArray}{t0:Tv}{rs:List (List UInt8)}(w:World)(hD:DsAt w F gd N q f)(hL:Jd3 N C B D R)(hG:Glo w)(hS:J1c f N C B D R gen t0 rs):
  Cs 69 #[gd] w fun e w'=>∃gx gs mp bk i nP FB FS pf us lv v B0,e= .returned (.tuple #[(gx:Nat),(gs:Nat),v,(0:Int)])/\w'.ownsRow B0 9 1 v rs.length (rs.map fun l=>Value.string (strOf l))/\
   SvS w' FB F gx N C B D R gd gen i mp bk q nP none 0 pf us none lv none f/\((lv.getD []).length:Int)=t0.need/\StAt w' FS gs R t0/\OpS w w' FB FS F gx mp B0/\Below w.heap.size w w':=by
 obtain⟨i,now,nm,ts,fl,es,rsg,l,t,s⟩:=hS.ex;refine(J8f gen i now nm ts fl es rsg l t0 rs w hD hL hG t).mono ?_;rintro e w' ⟨gx,gs,mp,bk,FB,FS,ps,v,B0,rfl,z,y,r,p,x,u,o⟩;refine⟨gx,gs,mp,bk,i,_,FB,FS,_,_,_,v,B0,rfl,r,p,?_,x,u,o⟩;rw[J5c (t.ld ps z y).2.2 z];exact s
theorem look_ok{F:Nat ->Prop}{gd N C B D R gen q:Nat}{f:Int ->Option ByteArray}{t0:Tv}{rs:List (List UInt8)}(w:World)(hD:DsAt w F gd N q f)(hL:Jd3 N C B D R)(hG:Glo w)(hS:J1c f N C B D R gen t0 rs)(hg:t0.Good):
  Cs 23 #[gd] w (RB w (.tuple #[repI gen t0.need rs.length t0.size,(0:Int)])):=by
 obtain⟨w1,x⟩:=exE (w.alloc (.cells #[.int .u64 0,(0:Int),(0:Int),(0:Int),(0:Int),false] 57));have u:Below w.heap.size w w1:=by rw[x];exact(qaa _ _).alloc (qab _) _
 have b:Hid (Bx w1 w.heap.size 57 #[.int .u64 0,(0:Int),(0:Int),(0:Int),(0:Int),false]):=zI (by rw[x];exact Bx.new _ _ _);have a:=zI x;have l:=zI u;have k:=zI (Jop w1 (hD.below u) hL (hG.below u) hS);have Z:=zI hg;obtain⟨nd,s⟩:=exE t0.need;obtain⟨sz,r⟩:=exE t0.size;obtain⟨n,Y⟩:=exE rs.length;rw[<- s,<- Y] at k;rw[<- s,<- r,<- Y];have W:=zI r;clear hD hL hG hS hg x u s r Y;go_enter Tryz.func23,Tryz.ntmps23;go_upto_region 1 with fail
 rw[<- a.out];go_wp2_with fail
 refine k.out.mono ?_;rintro e w2 ⟨gx,gs,mp,bk,i,nP,FB,FS,pf,us,lv,v,B0,rfl,S,P,j,h,_,p⟩;obtain⟨A,c,rfl,_⟩:=Jap S;have t:=Jlb (n:=n) (c:=c) (A:=A) w2 P h Z.out;rw[<- W.out] at t;rw[show repV gen (lv.getD []).length n sz=repI gen nd n sz from by unfold repV repI;rw[j]] at t;have V:=zI t;have U:=zI (b.out.below p);have g:=zI (l.out.trans (p.mono l.out.size));clear S P j h p t;go_wp2_with fail
 refine V.out.mono ?_;rintro e w4 ⟨rfl,o⟩;have z:=zI (U.out.below o);have T:=zI (g.out.trans (o.mono g.out.size));clear o;have r0:=z.out.at_ 0 rfl;have r1:=z.out.at_ 1 rfl;have r2:=z.out.at_ 2 rfl;have r3:=z.out.at_ 3 rfl;have r4:=z.out.at_ 4 rfl;have r5:=z.out.at_ 5 rfl;have f0:=z.out.free 0;have f1:=z.out.free 1;have f2:=z.out.free 2;have f3:=z.out.free 3;have f4:=z.out.free 4;have f5:=z.out.free 5;have O:=z.out.lt;go_wp2_with fail
 obtain⟨w9,m⟩:=exE (putC w4 w.heap.size 0 [.int .u64 (gen:Int),(nd:Int),(0:Int),(n:Int),(sz:Int),false]);have y:=Ja1 z.out [.int .u64 (gen:Int),(nd:Int),(0:Int),(n:Int),(sz:Int),false] rfl;have d:=Jao (B:=w.heap.size) [.int .u64 (gen:Int),(nd:Int),(0:Int),(n:Int),(sz:Int),false] (qab _) w4 0;rw[<- m] at y d;simp only[putC,qa9,Nat.reduceAdd] at m;rw[<- m];have q0:=y.at_ 0 rfl;have q1:=y.at_ 1 rfl;have q2:=y.at_ 2 rfl;have q3:=y.at_ 3 rfl;have q4:=y.at_ 4 rfl;have q5:=y.at_ 5 rfl;exact qa7 (v:= .tuple #[repI gen nd n sz,(0:Int)]) (by simp[results,Tryz.results23,go_sem,q0,q1,q2,q3,q4,q5]) rfl ⟨rfl,T.out.trans d⟩
theorem Jrh(w:World):Cs 72 #[.pointer none] w (RS w (0:Int)):=by
 go_enter Tryz.func72,Tryz.ntmps72;go_wp2;go_ret;exact⟨rfl,rfl⟩
theorem J1p{F:Nat ->Prop}{gd N C B D R gen q:Nat}{f:Int ->Option ByteArray}{t0:Tv}(w:World)(hD:DsAt w F gd N q f)(hL:Jd3 N C B D R)(hG:Glo w)(hS:J1c f N C B D R gen t0 [])(hg:t0.Good):
  Cs 24 #[gd] w (RB w (0:Int)):=by
 have l:=zI (Jop w hD hL hG hS);have O:=zI hg;have k:=zI (fun W F' g' (hT:Jae W F' g' t0)=>Jh3 W hT hg.n.1 hg.rare);obtain⟨nd,h⟩:=exE t0.need;rw[<- h] at l k;clear hD hL hG hS hg h;go_enter Tryz.func24,Tryz.ntmps24;go_wp2_with fail
 refine l.out.mono ?_;rintro e w2 ⟨gx,gs,mp,bk,i,nP,FB,FS,pf,us,lv,v,B0,rfl,G,E,g,s,_,d⟩;obtain⟨A,c,rfl,_⟩:=Jap G;have r:=Jlb (n:=0) (c:=c) (A:=A) w2 E s O.out;rw[show repV gen (lv.getD []).length 0 t0.size=repI gen nd 0 t0.size from by unfold repV repI;rw[g]] at r;have b:=zI r;have M:=zI s;have a:=zI d;obtain⟨sz,Z⟩:=exE t0.size;rw[<- Z] at b;clear G E g s d r Z;go_wp2_with fail
 refine b.out.mono ?_;rintro e w3 ⟨rfl,p⟩;have Y:=zI (a.out.trans (p.mono a.out.size));have t:=zI (M.out.below p);have L:=zI (Je9 w3 t.out);clear p;go_wp2_with fail
 refine L.out.mono ?_;rintro e w4 ⟨rfl,K⟩;subst K;obtain⟨w5,u⟩:=exE (w3.alloc (.cells #[.int .u64 (gen:Int),(nd:Int),(0:Int),(0:Int),(sz:Int),false] 57));obtain⟨g7,o⟩:=exE w3.heap.size;have m:Below w3.heap.size w3 w5:=by rw[u];exact(qaa _ _).alloc (qab _) _
 have V:Bx w5 g7 57 #[.int .u64 (gen:Int),(nd:Int),(0:Int),(0:Int),(sz:Int),false]:=by rw[u,o];exact Bx.new _ _ _
 have J:=zI u;have I:=zI o;have z:=zI V;have U:=zI (Y.out.trans (m.mono Y.out.size));have H:=zI (fun W (hW:Below w5.heap.size w5 W)=>Jer W ((t.out.below m).below hW));clear u o m V;go_upto_region 5 with fail
 rw[<- J.out,<- I.out]
 go_region_held3 (fun w'=>w'.cell? ⟨g7,1,none⟩=some (.int .i64 nd)/\w'.cell? ⟨g7,2,none⟩=some (.int .i64 0)/\Below w5.heap.size w5 w')
  (first
    | exact⟨z.out.drew.at_ 1 rfl,z.out.drew.at_ 2 rfl,(qaa _ _).drew⟩
    | exact⟨(z.out.below x).at_ 1 rfl,(z.out.below x).at_ 2 rfl,x⟩
    | exact⟨(z.out.below y).at_ 1 rfl,(z.out.below y).at_ 2 rfl,y⟩)
  (first
    | (go_at_call 31
       go_split_ands;refine(H.out _ (by assumption)).mono ?_;rintro e w6 ⟨g6,rfl,T,S⟩;have y:Below w5.heap.size w5 w6:=Below.trans (by assumption) (S.mono (Below.size (by assumption))))
    | (go_at_call 32
       refine(k.out _ _ _ T).mono ?_;rintro e w7 ⟨rfl,P⟩;have x:Below w5.heap.size w5 w7:=y.trans (P.mono y.size))
    | (go_at_call 72
       refine(Jrh _).mono ?_;rintro e w8 ⟨rfl,rfl⟩)
    | (go_at_call 60
       refine(Jeq _).mono ?_;rintro e w9 ⟨rfl,rfl⟩))
 have HE:=zI (U.out.trans (x.mono U.out.size));clear y x T S P;go_wp2_with fail
 go_loopw [53] (fun j wr=>j= .int .i64 0/\w7=wr) (fun _ _=>0)
 case atStart=>exact⟨rfl,rfl⟩
 case round=>
  obtain⟨rfl,K⟩:=hrel;subst K;go_wp2_with fail
  go_ret;exact⟨rfl,HE.out⟩
end Go.Proofs.YtglmhddbhhcjdaaGreatDoor
