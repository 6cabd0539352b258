/- Laws that the walk of the last text wants. -/
import Derived.Test.YtglmhddbhhcjdaaGreatDoorC41
import Derived.Test.YtglmhddbhhcjdaaGreatDoorC42
set_option maxRecDepth 100000
set_option linter.unusedSimpArgs false
set_option maxHeartbeats 4000000
namespace Go.Proofs.YtglmhddbhhcjdaaGreatDoor
open Go.RowKit
theorem Jg6.logged{f f':Int ->Option ByteArray}{N C B D R k i:Nat}{now:Int}{nm:ByteArray}{ts:List Ti}{fl:List Int}{es:List En}{rs:List (List Rc)}{l:List UInt8}{t:Tv}{lr lr':List (List UInt8)}(h:Jg6 f N C B D R k i now nm ts fl es rs l t lr)(hL:Jd3 N C B D R)(hf:∀z:Int,z<2\/18<=z ->f' z=f z)(hl:Jda f' 2 k lr'):Jg6 f' N C B D R k i now nm ts fl es rs l t lr':=by
 have x:∀z:Int,z<2\/18<=z ->Jav f' z=Jav f z:=fun z hz=>by unfold Jav;rw[hf z hz]
 have v:=hL.bd;refine⟨h.cat,h.fit,h.len,fun j hj=> ?_,?_,h.rl,fun j w h2=> ?_,h.flo,h.ld,h.few,h.need,hl⟩
 · rw[x _ (.inr (by unfold Jb5;split<;>omega))];exact h.on j hj
 · obtain⟨o0,o1,u,w,e⟩:=h.sup
   exact⟨o0,o1,by rw[x 0 (by omega)];exact u,by rw[x 1 (by omega)];exact w,e⟩
 · have y:=h.seg j w h2
   refine⟨fun q hq=> ?_,y.len,y.n,y.fine,y.lt,y.bl⟩;have:=y.bl _ (qan hq);rw[x _ (.inr (by omega))];exact y.on q hq
abbrev Jow (N C B D R gd gen id mp bk gl gs:Nat):Array Value:=
 #[(N:Int),(2:Int),(18:Int),(B:Int),(C:Int),(D:Int),(R:Int),gd,.int .u64 (gen:Int),.int .u64 (id:Int),.map (some mp),bk,gl,(0:Int),gs,true]
structure EngS (w:World) (FB FD FT:Nat ->Prop) (ge gs gl N C B D R gd gen id mp bk q used:Nat) (ps:List Pm) (f:Int ->Option ByteArray) (t:Tv) (rs:List (List UInt8)):Prop where
 sv:SvS w FB FD ge N C B D R gd gen id mp bk q ps.length (some ⟨gl,0,none⟩) 0 (mapOf ps) (usOf ps) none (Jcf ps) none f
 bx:Bx w ge 71 (Jow N C B D R gd gen id mp bk gl gs)
 st:StAt w FT gs R t
 lg:Bx w gl 286 (lgCs gd 2 16 gen used rs.length)
 ft:∀x,FT x ->Apart FB FD ge w x/\x≠mp/\x≠gl
 ngl: ¬ FB gl/\ ¬ FD gl/\gl≠ge
def engF (FB FD FT:Nat ->Prop) (ge gl:Nat) (x:Nat):Prop:=x=ge\/x=gl\/FB x\/FD x\/FT x
section
variable {w w':World} {FB FD FT:Nat ->Prop} {ge gs gl N C B D R gd gen id mp bk q used:Nat} {ps:List Pm} {f:Int ->Option ByteArray} {t:Tv} {rs:List (List UInt8)}
theorem EngS.below(h:EngS w FB FD FT ge gs gl N C B D R gd gen id mp bk q used ps f t rs)(hb:Below w.heap.size w w'):EngS w' FB FD FT ge gs gl N C B D R gd gen id mp bk q used ps f t rs:=
 ⟨h.sv.below hb,h.bx.below hb,h.st.below hb,h.lg.below hb,fun x hx=>by have:=h.ft x hx;exact⟨⟨this.1.1,this.1.2.1,this.1.2.2.1,qar this.1.2.2.2 hb.size⟩,this.2⟩,h.ngl⟩
theorem EngS.ge_ne(h:EngS w FB FD FT ge gs gl N C B D R gd gen id mp bk q used ps f t rs):gl≠mp:=fun e=>h.sv.map.nocells _ _ _ (by rw[<- e];exact h.lg.blk)
theorem EngS.stated(h:EngS w FB FD FT ge gs gl N C B D R gd gen id mp bk q used ps f t rs){t':Tv}(hs:StAt w' (grow FT w w') gs R t')(hc:Chg FT w w'):EngS w' FB FD (grow FT w w') ge gs gl N C B D R gd gen id mp bk q used ps f t' rs:=by
 refine⟨h.sv.far hc (fun x z=>by have:=h.ft x z;exact⟨this.1.1,this.1.2.1,this.1.2.2.1,this.2.1⟩),h.bx.chg hc (fun hf=>(h.ft _ hf).1.2.2.1 rfl),hs,h.lg.chg hc (fun hf=>(h.ft _ hf).2.2 rfl),fun x z=> ?_,h.ngl⟩;rcases z with z | z
 · have:=h.ft x z
   exact⟨⟨this.1.1,this.1.2.1,this.1.2.2.1,qar this.1.2.2.2 hc.size⟩,this.2⟩
 · have y:=z.1
   have v:=h.sv.box.lt;have u:=h.sv.map.lt;have s:=h.lg.lt;exact⟨⟨fun hf=>by have:=h.sv.book.ins x hf;omega,fun hf=>by have:=h.sv.disk.ins x hf;omega,by omega,z.2⟩,by omega,by omega⟩
theorem EngS.logged(h:EngS w FB FD FT ge gs gl N C B D R gd gen id mp bk q used ps f t rs){q' used':Nat}{f':Int ->Option ByteArray}{rs':List (List UInt8)}(hl:LgW w FD w' gl gd N q' f' 2 16 gen used' rs'.length):
  EngS w' FB (grow FD w w') FT ge gs gl N C B D R gd gen id mp bk q' used' ps f' t rs':=by
 have z:=hl.chg;have v:∀x,FB x -> ¬ (FD x\/x=gl):=fun x hx e=>e.elim (fun y=>h.sv.dj x hx y) (fun y=>h.ngl.1 (by rw[<- y];exact hx))
 have far:∀x,x<w.heap.size -> ¬ FD x -> ¬ grow FD w w' x:=fun x hx hn hf=>by
  rcases hf with y | y
  · exact hn y
  · have:=y.1;omega
 refine⟨⟨h.sv.box.chg z (fun e=>e.elim h.sv.ngx.2 (fun y=>h.ngl.2.2 y.symm)),h.sv.map.chg z (fun e=>e.elim h.sv.nmp.2 (fun y=>h.ge_ne y.symm)),h.sv.book.chg z v,hl.dk,fun x hx hd=>far x (h.sv.book.ins x hx) (h.sv.dj x hx) hd,⟨h.sv.ngx.1,far _ h.sv.box.lt h.sv.ngx.2⟩,⟨h.sv.nmp.1,far _ h.sv.map.lt h.sv.nmp.2⟩⟩,
  h.bx.chg z (fun e=>e.elim h.sv.ngx.2 (fun y=>h.ngl.2.2 y.symm)),h.st.chg z (fun x hx e=>e.elim (h.ft x hx).1.2.1 (h.ft x hx).2.2),hl.bx,fun x hx=> ?_,⟨h.ngl.1,far _ h.lg.lt h.ngl.2.1,h.ngl.2.2⟩⟩
 have:=h.ft x hx;exact⟨⟨this.1.1,far _ this.1.2.2.2 this.1.2.1,this.1.2.2.1,qar this.1.2.2.2 z.size⟩,this.2⟩
end
structure J5y (f:Int ->Option ByteArray) (N C B D R gen:Nat) (t0:Tv) (rs:List (List UInt8)):Prop where
 ex:∃i now nm ts fl es rsg l,Jg6 f N C B D R gen i now nm ts fl es rsg l t0 rs/\((es.flatMap En.bl).length:Int)=t0.need
structure Jat (w:World) (F:Nat ->Prop) (ge gd N C B D R gen q:Nat) (ps:List Pm) (f:Int ->Option ByteArray) (t:Tv) (rs:List (List UInt8)) (t0:Tv):Prop where
 ex:∃FB FD FT gs gl mp bk id,EngS w FB FD FT ge gs gl N C B D R gd gen id mp bk q (layAll gen 0 rs).length ps f t rs/\(∀x,engF FB FD FT ge gl x ->F x)/\id<=100*gen/\F mp
 log:Jda f 2 gen rs
 svd:J5y f N C B D R gen t0 rs
 good:t.Good
 need:t.need<=(R:Int)
 lay:Jd3 N C B D R
 gen1:1<=gen/\gen<5000
 low:∀x,F x ->gB<=x
 ins:Ins F w
section
variable {w w':World} {F:Nat ->Prop} {ge gd N C B D R gen q:Nat} {ps:List Pm} {f:Int ->Option ByteArray} {t t0:Tv} {rs:List (List UInt8)}
theorem Jat.below(h:Jat w F ge gd N C B D R gen q ps f t rs t0)(hb:Below w.heap.size w w'):Jat w' F ge gd N C B D R gen q ps f t rs t0:=by
 obtain⟨FB,FD,FT,gs,gl,mp,bk,id,z,y,x,v⟩:=h.ex;exact⟨⟨FB,FD,FT,gs,gl,mp,bk,id,z.below hb,y,x,v⟩,h.log,h.svd,h.good,h.need,h.lay,h.gen1,h.low,h.ins.up hb.size⟩
theorem EngS.up{FB FD FT:Nat ->Prop}{gs gl id mp bk used q':Nat}(h:EngS w FB FD FT ge gs gl N C B D R gd gen id mp bk q used ps f t rs)(hq:q<=q'):EngS w FB FD FT ge gs gl N C B D R gd gen id mp bk q' used ps f t rs:=
 ⟨⟨h.sv.box,h.sv.map,h.sv.book,h.sv.disk.up hq,h.sv.dj,h.sv.ngx,h.sv.nmp⟩,h.bx,h.st,h.lg,h.ft,h.ngl⟩
theorem Jat.up{q':Nat}(h:Jat w F ge gd N C B D R gen q ps f t rs t0)(hq:q<=q'):Jat w F ge gd N C B D R gen q' ps f t rs t0:=by
 obtain⟨FB,FD,FT,gs,gl,mp,bk,id,z,y⟩:=h.ex;exact⟨⟨FB,FD,FT,gs,gl,mp,bk,id,z.up hq,y⟩,h.log,h.svd,h.good,h.need,h.lay,h.gen1,h.low,h.ins⟩
theorem Jat.size(h:Jat w F ge gd N C B D R gen q ps f t rs t0):gB<=w.heap.size:=by
 obtain⟨FB,FD,FT,gs,gl,mp,bk,id,z,y,_⟩:=h.ex;have x:=h.low ge (y ge (.inl rfl));have v:=z.bx.lt;omega
theorem Jat.growlow(h:Jat w F ge gd N C B D R gen q ps f t rs t0):∀x,grow F w w' x ->gB<=x:=by
 have y:=h.size;intro x z;rcases z with z | z
 · exact h.low x z
 · have:=z.1;omega
theorem Jat.mono{G:Nat ->Prop}(h:Jat w F ge gd N C B D R gen q ps f t rs t0)(hs:∀x,F x ->G x)(hl:∀x,G x ->gB<=x)(hi:Ins G w):Jat w G ge gd N C B D R gen q ps f t rs t0:=by
 obtain⟨FB,FD,FT,gs,gl,mp,bk,id,z,y,v,u⟩:=h.ex;exact⟨⟨FB,FD,FT,gs,gl,mp,bk,id,z,fun x hx=>hs x (y x hx),v,hs _ u⟩,h.log,h.svd,h.good,h.need,h.lay,h.gen1,hl,hi⟩
theorem Jat.far{G:Nat ->Prop}(h:Jat w F ge gd N C B D R gen q ps f t rs t0)(hc:Chg G w w')(hd:∀x,G x -> ¬ F x):Jat w' F ge gd N C B D R gen q ps f t rs t0:=by
 obtain⟨FB,FD,FT,gs,gl,mp,bk,id,z,v,s,u⟩:=h.ex;have n:=fun x hx=>fun hg=>hd x hg (v x hx);refine⟨⟨FB,FD,FT,gs,gl,mp,bk,id,⟨z.sv.far hc (fun x hx=>⟨fun y=>n x (.inr (.inr (.inl y))) hx,fun y=>n x (.inr (.inr (.inr (.inl y)))) hx,fun y=>n x (.inl y) hx,fun y=>hd x hx (by rw[y];exact u)⟩),z.bx.chg hc (n ge (.inl rfl)),z.st.chg hc (fun x hx=>n x (.inr (.inr (.inr (.inr hx))))),z.lg.chg hc (n gl (.inr (.inl rfl))),fun x hx=> ?_,z.ngl⟩,v,s,u⟩,h.log,h.svd,h.good,h.need,h.lay,h.gen1,h.low,h.ins.up hc.size⟩;have:=z.ft x hx;exact⟨⟨this.1.1,this.1.2.1,this.1.2.2.1,qar this.1.2.2.2 hc.size⟩,this.2⟩
theorem Jat.disk(h:Jat w F ge gd N C B D R gen q ps f t rs t0):∃FD,DsAt w FD gd N q f/\∀x,FD x ->F x:=by
 obtain⟨FB,FD,FT,gs,gl,mp,bk,id,z,y,_⟩:=h.ex;exact⟨FD,z.sv.disk,fun x hx=>y x (.inr (.inr (.inr (.inl hx))))⟩
end
section
variable {w:World} {ge gs gl N C B D R gd gen id mp bk:Nat}
theorem Kaa(h:Bx w ge 71 (Jow N C B D R gd gen id mp bk gl gs)):
  Cs 43 #[ge] w fun e w'=>e= .returned true/\w=w':=by
 have x:=h.at_ 15 (v:= true) rfl;clear h;go_enter Tryz.func43,Tryz.ntmps43;go_wp2_with fail
 go_ret;exact⟨rfl,rfl⟩
theorem Jox(ge:Nat)(w:World):Cs 105 #[ge,(0:Int)] w (RS w (0:Int)):=by
 go_enter Tryz.func105,Tryz.ntmps105;go_wp2_with fail
 go_ret;exact⟨rfl,rfl⟩
theorem J2d{d:Addr}{lg:Option Addr}{bad:Int}{g:Nat}(h:Bo w g (Jdm N C B D R d gen id mp bk lg bad)):
  Cs 103 #[g] w (RS w (.pointer lg)):=by
 have z:=zI (Jjw h);have x:=h.at_ 12 (v:= .pointer lg) rfl;clear h;go_enter Tryz.func103,Tryz.ntmps103;go_wp2_with fail
 refine z.out.mono ?_;rintro e w1 ⟨rfl,y⟩;subst y;go_wp2_with fail
 go_ret;exact⟨rfl,rfl⟩
end
section
variable {FB FD FT:Nat ->Prop} {ge gs gl N C B D R gd gen id mp bk q used:Nat} {ps:List Pm} {f:Int ->Option ByteArray} {t:Tv} {rs:List (List UInt8)}
theorem J2e(w:World)(h:EngS w FB FD FT ge gs gl N C B D R gd gen id mp bk q used ps f t rs)(hq:q<=800000):
  Cs 45 #[ge] w fun e w'=>e= .returned (0:Int)/\LgW w FD w' gl gd N q f 2 16 gen used rs.length:=by
 have z:=zI (J2d h.sv.box);have y:=zI (J19 w h.sv.disk h.lg h.ngl.2.1 hq);clear h;go_enter Tryz.func45,Tryz.ntmps45;go_wp2_with fail
 refine z.out.mono ?_;rintro e w1 ⟨rfl,x⟩;subst x;go_wp2_with fail
 refine y.out.mono ?_;rintro e w2 ⟨rfl,v⟩;have u:=zI v;clear v;go_wp2_with fail
 refine(Jox ge w2).mono ?_;rintro e w3 ⟨rfl,x⟩;subst x;go_wp2_with fail
 go_ret;exact⟨rfl,u.out⟩
theorem Jxl(o:Ov)(A:Option Addr)(n c:Nat)(w:World)(h:EngS w FB FD FT ge gs gl N C B D R gd gen id mp bk q used ps f t rs)(hN:18<=N)(ho:o.Ok)(hl:Smps w A n o.l)(hg:gen<18446744073709551616)(hr:rs.length<65000)(hfit:used+wlN (opB o).length<=16)(hq:q<=800000):
  Cs 44 #[ge,opV o A n c] w fun e w'=>e= .returned (0:Int)/\
   LgW w FD w' gl gd N (q+2*wlN (opB o).length) (Jb9 f (2+used) (wlL gen rs.length (opB o))) 2 16 gen (used+wlN (opB o).length) (rs.length+1):=by
 have z:=(qaa w.heap.size w).alloc (qab _) (.cells #[(o.kind:Int),(o.n:Int),.slice A n c] 115);have k:=zI (Jw0 o A n c _ ho (hl.below z));have x:=zI z;have j:=zI (fun W (hW:Below w.heap.size w W)=>J2d (h.sv.box.below hW));have i:=Js1 ho;have g:=zI (fun W b (hW:Below w.heap.size w W) (hs:W.cell? ⟨b,0,none⟩=some (.string (strOf (opB o))))=>J81 (opB o) b W (h.sv.disk.below hW) (h.lg.below hW) h.ngl.2.1 hs (by omega) hg hr hfit (by omega) (by omega) hq);have d:=zI h.sv.disk.ins;have a:=zI h.lg.lt;generalize strOf (opB o)=S at*;clear h ho hl i z;go_enter Tryz.func44,Tryz.ntmps44;go_wp2_with fail
 refine k.out.mono ?_;rintro e w1 ⟨rfl,v⟩;have y:=zI (x.out.trans (v.mono x.out.size));have u:=zI (j.out w1 y.out);clear v;go_wp2_with fail
 refine u.out.mono ?_;rintro e w2 ⟨rfl,Z⟩;subst Z;have s:=(qaa w1.heap.size w1).alloc (qab _) (.cells #[S] 9);have r:=zI (y.out.trans (s.mono y.out.size));have p:=zI (g.out _ w1.heap.size r.out ((Bx.new w1 9 #[S]).at_ 0 rfl));clear s;go_wp2_with fail
 refine p.out.mono ?_;rintro e w3 ⟨rfl,m⟩;have Y:=zI (m.back r.out d.out a.out);clear m;go_wp2_with fail
 refine(Jox ge w3).mono ?_;rintro e w4 ⟨rfl,Z⟩;subst Z;go_wp2_with fail
 go_ret;exact⟨rfl,Y.out⟩
end
section
variable {w w':World} {F:Nat ->Prop} {ge gd N C B D R gen q:Nat} {ps:List Pm} {f:Int ->Option ByteArray} {t t0:Tv} {rs:List (List UInt8)}
theorem J2f{o:Ov}(h:o.Ok):wlN (opB o).length<=2:=by
 have:=Js1 h;unfold wlN;split<;>omega
theorem Jvn{n:Int}:wlN (opB ⟨2,n,[]⟩).length=1:=by
 have:(opB ⟨2,n,[]⟩).length=10:=by unfold opB smsB;simp
 rw[this];rfl
theorem Jat.logged(h:Jat w F ge gd N C B D R gen q ps f t rs t0){FB FD FT:Nat ->Prop}{gs gl mp bk id q':Nat}{f':Int ->Option ByteArray}{rs':List (List UInt8)}(h1:EngS w FB FD FT ge gs gl N C B D R gd gen id mp bk q (layAll gen 0 rs).length ps f t rs)(h2:∀x,engF FB FD FT ge gl x ->F x)(h3:id<=100*gen)(h4:F mp)(hl:LgW w FD w' gl gd N q' f' 2 16 gen (layAll gen 0 rs').length rs'.length)(hf:∀z:Int,z<2\/18<=z ->f' z=f z)(hlog:Jda f' 2 gen rs'):
  Jat w' (grow F w w') ge gd N C B D R gen q' ps f' t rs' t0/\Chg F w w':=by
 have u:=h1.logged hl;refine⟨⟨⟨_,_,_,_,_,_,_,_,u,fun x v=> ?_,h3,.inl h4⟩,hlog,?_,h.good,h.need,h.lay,h.gen1,h.growlow,h.ins.grow hl.chg.size⟩,hl.chg.sub (fun x v=>v.elim (fun y=>h2 x (.inr (.inr (.inr (.inl y))))) (fun y=>h2 x (.inr (.inl y))))⟩
 · rcases v with v | v | v | v | v
   · exact .inl (h2 x (.inl v))
   · exact .inl (h2 x (.inr (.inl v)))
   · exact .inl (h2 x (.inr (.inr (.inl v))))
   · exact v.imp (fun y=>h2 x (.inr (.inr (.inr (.inl y))))) (fun y=>y)
   · exact .inl (h2 x (.inr (.inr (.inr (.inr v)))))
 · obtain⟨i,now,nm,ts,fl,es,rsg,l,s,r⟩:=h.svd.ex
   exact⟨i,now,nm,ts,fl,es,rsg,l,s.logged h.lay hf hlog,r⟩
theorem Jnd(o:Ov)(A:Option Addr)(n c:Nat)(w:World)(h:Jat w F ge gd N C B D R gen q ps f t rs t0)(ho:o.Ok)(hl:Smps w A n o.l)(hfit:(layAll gen 0 rs).length+wlN (opB o).length<=16)(hq:q<=800000):
  Cs 44 #[ge,opV o A n c] w fun e w'=>e= .returned (0:Int)/\∃f',Jat w' (grow F w w') ge gd N C B D R gen (q+4) ps f' t (rs++[opB o]) t0/\Chg F w w':=by
 obtain⟨FB,FD,FT,gs,gl,mp,bk,id,x,s,r,p⟩:=h.ex;have m:=J2f ho;have v:=h.lay.n;have u:=h.gen1;have k:=Js1 ho;refine(Jxl o A n c w x (by omega) ho hl (by omega) (by have:=h.log.few;omega) hfit hq).mono ?_;rintro e w' ⟨rfl,j⟩;have y:(layAll gen 0 (rs++[opB o])).length=(layAll gen 0 rs).length+wlN (opB o).length:=by rw[Jfj,qad,Jd7]
 have:=h.logged (rs':=rs++[opB o]) x s r p (by rw[y,qad];exact j) (fun z hz=>Jez _ _ _ _ (by rw[Jd7];omega)) (h.log.put (opB o) (by omega) hfit);exact⟨rfl,_,this.1.up (by omega),this.2⟩
theorem Jrn(w:World)(h:Jat w F ge gd N C B D R gen q ps f t rs t0)(hq:q<=800000):
  Cs 45 #[ge] w fun e w'=>e= .returned (0:Int)/\Jat w' (grow F w w') ge gd N C B D R gen q ps f t rs t0/\Chg F w w':=by
 obtain⟨FB,FD,FT,gs,gl,mp,bk,id,z,y,x,v⟩:=h.ex;refine(J2e w z hq).mono ?_;rintro e w' ⟨rfl,u⟩;exact⟨rfl,h.logged z y x v u (fun _ _=>rfl) h.log⟩
theorem Jro(w:World)(h:Jat w F ge gd N C B D R gen q ps f t rs t0):Cs 43 #[ge] w fun e w'=>e= .returned true/\w=w':=by
 obtain⟨FB,FD,FT,gs,gl,mp,bk,id,z,_⟩:=h.ex;exact Kaa z.bx
end
section
variable {w w1 w' w2:World} {F:Nat ->Prop} {ge gd N C B D R gen q:Nat} {ps:List Pm} {f:Int ->Option ByteArray} {t t0:Tv} {rs:List (List UInt8)}
theorem Jat.seq{q':Nat}{f':Int ->Option ByteArray}{t':Tv}{rs':List (List UInt8)}(hc:Chg F w w1)(h:Jat w2 (grow (grow F w w1) w1 w2) ge gd N C B D R gen q' ps f' t' rs' t0)(k:Chg (grow F w w1) w1 w2):Jat w2 (grow F w w2) ge gd N C B D R gen q' ps f' t' rs' t0/\Chg F w w2:=by
 rw[grow_grow F hc.size k.size] at h;exact⟨h,hc.seq k⟩
theorem Jat.stated(h:Jat w F ge gd N C B D R gen q ps f t rs t0){FB FD FT:Nat ->Prop}{gs gl mp bk id:Nat}{t':Tv}(h1:EngS w FB FD FT ge gs gl N C B D R gd gen id mp bk q (layAll gen 0 rs).length ps f t rs)(h2:∀x,engF FB FD FT ge gl x ->F x)(h3:id<=100*gen)(h4:F mp)(hs:StAt w' (grow FT w w') gs R t')(hc:Chg FT w w')(hg:t'.Good)(hn:t'.need<=(R:Int)):Jat w' (grow F w w') ge gd N C B D R gen q ps f t' rs t0/\Chg F w w':=by
 refine⟨⟨⟨_,_,_,_,_,_,_,_,h1.stated hs hc,fun x z=> ?_,h3,.inl h4⟩,h.log,h.svd,hg,hn,h.lay,h.gen1,h.growlow,h.ins.grow hc.size⟩,hc.sub (fun x z=>h2 x (.inr (.inr (.inr (.inr z)))))⟩;rcases z with z | z | z | z | z
 · exact .inl (h2 x (.inl z))
 · exact .inl (h2 x (.inr (.inl z)))
 · exact .inl (h2 x (.inr (.inr (.inl z))))
 · exact .inl (h2 x (.inr (.inr (.inr (.inl z)))))
 · exact z.imp (fun y=>h2 x (.inr (.inr (.inr (.inr y))))) (fun y=>y)
theorem Jat.grown(h:Jat w F ge gd N C B D R gen q ps f t rs t0)(hb:Below w.heap.size w w'):Jat w' (grow F w w') ge gd N C B D R gen q ps f t rs t0/\Chg F w w':=⟨(h.below hb).mono (fun _=> .inl) h.growlow (h.ins.grow hb.size),Chg.of_below hb⟩
theorem Gets.fine{r:Rch}{s:Smp}(h:r.Gets s)(hn:r.now<=1099511627776):s.Fine:=by
 have z:=h.tm;refine⟨h.ok,h.nm,?_,by omega⟩;have h:=h.nm;unfold Jae at h;simp only[qb1,qbc] at h;exact h.1.2
def Joy (R:Nat) (t:Tv) (l:List Smp) (r:Int) (t':Tv) (rs rs':List (List UInt8)):Prop:=
 (r=0/\t.r.putErr l=0/\(t.put l).need<=(R:Int)/\t'=t.put l/\rs'=rs++[opB ⟨1,0,l⟩])\/(r≠0/\t'=t/\rs'=rs/\(r=t.r.putErr l\/t.r.putErr l=0/\r=20/\(R:Int)<(t.put l).need))
end
section
variable {F:Nat ->Prop} {ge gd N C B D R gen q:Nat} {ps:List Pm} {f:Int ->Option ByteArray} {t t0:Tv} {rs:List (List UInt8)}
theorem J83(l:List Smp)(A:Option Addr)(n c:Nat)(w:World)(h:Jat w F ge gd N C B D R gen q ps f t rs t0)(hl:Smps w A n l)(hA:1<=l.length ->AIn (fun b=> ¬ F b) A)(hfew:∀i,i<t.tabs.length ->(t.tab i).length<=9000)(hfit:(layAll gen 0 rs).length+2<=16)(hq:q<=700000):
  Cs 113 #[ge,.slice A n c] w fun e w'=>∃r f' t' rs',e= .returned (.tuple #[(r:Int),false])/\Jat w' (grow F w w') ge gd N C B D R gen (q+4) ps f' t' rs' t0/\Chg F w w'/\Joy R t l r t' rs rs':=by
 obtain⟨FB,FD,FT,gs,gl,mp,bk,id,Y,h2,h3,h4⟩:=h.ex;have x14:=Y.bx.at_ 14 (v:= gs) rfl;have o:=h.good.n;have HE:=zI h;by_cases u:t.r.putErr l≠0
 · have P:=zI (J2a (c:=c) w Y.st o.1 hl u)
   have hJ:=zI u;have d1:((t.r.putErr l)==0)=false:=by rw[qat];exact u
   generalize hz:t.r.putErr l=z at*;have HZ:=zI hz;clear h Y h2 h3 h4 hl hA hfew hfit u o hz;go_enter Tryz.func113,Tryz.ntmps113;go_wp2_with fail
   refine P.out.mono ?_;rintro e w1 ⟨rfl,m⟩;have O:=zI (HE.out.grown m);clear m x14;go_wp2_with fail
   go_ret2;exact⟨z,f,t,rs,rfl,O.out.1.up (by omega),O.out.2,.inr ⟨hJ.out,rfl,rfl,.inl HZ.out.symm⟩⟩
 · have k:t.r.putErr l=0:=Classical.not_not.1 u
   obtain⟨j,U,y⟩:=Rch.putErr_zero hl.ok k;have V:=hl.len;have g:∀i,i<t.tabs.length -> -9223372036854775808<=t.r.ev i/\t.r.ev i<=9223372036854775807:=fun i hi=>by have:=h.good.ev hi;omega
   have x:(t.put l).Good:=Jvg (N:=9000) h.good y hfew (by omega);have d:∀i,i<t.tabs.length ->(t.tab i).length<=900000:=fun i hi=>by have:=hfew i hi;omega
   have M:=zI k;by_cases a:(R:Int)<(t.put l).need
   · have P:=zI (Jxk (c:=c) w Y.st o.1 (by omega) hl (by omega) d y g x.rare a)
     have T:=zI a;clear h Y h2 h3 h4 hl hA hfew hfit u k o j U y V g x d a;go_enter Tryz.func113,Tryz.ntmps113;go_wp2_with fail
     refine P.out.mono ?_;rintro e w1 ⟨rfl,m⟩;have O:=zI (HE.out.grown m);clear m x14;go_wp2_with fail
     go_ret2;exact⟨20,f,t,rs,rfl,O.out.1.up (by omega),O.out.2,.inr ⟨by omega,rfl,rfl,.inr ⟨M.out,rfl,T.out⟩⟩⟩
   · have p:(t.put l).need<=(R:Int):=by omega
     have T:=zI p;have P:=zI (J4x (c:=c) w Y.st o.1 (by omega) hl (by omega) d y g x.rare p);have Ha:=zI (fun w' (hs:StAt w' (grow FT w w') gs R (t.put l)) (hc:Chg FT w w')=>h.stated Y h2 h3 h4 hs hc x p);have S:(⟨1,0,l⟩:Ov).Ok:=⟨fun s hs=>Gets.fine (y s hs) h.good.now.2,.inl ⟨rfl,rfl,j,U⟩⟩;have Hb:=J2f S;have Hc:=zI (fun W F' (hE:Jat W F' ge gd N C B D R gen q ps f (t.put l) rs t0) (hS:Smps W A n l)=>show Cs 44 #[ge,.agg #[(1:Int),(0:Int),.slice A n c]] W fun e w'=>e= .returned (0:Int)/\∃f',Jat w' (grow F' W w') ge gd N C B D R gen (q+4) ps f' (t.put l) (rs++[opB ⟨1,0,l⟩]) t0/\Chg F' W w' from Jnd ⟨1,0,l⟩ A n c W hE S hS (by omega) (by omega));have Hd:=zI (fun w' (hc:Chg F w w')=>hl.chg hc (hA j));clear h Y h2 h3 h4 hl hA hfew hfit u k o j U y V g x d a p S Hb;generalize ht2:t.put l=t2 at*;have L:=zI ht2;clear ht2;go_enter Tryz.func113,Tryz.ntmps113;go_wp2_with fail
     refine P.out.mono ?_;rintro e w1 ⟨rfl,K,J⟩;have Z:=Ha.out w1 K J;have He:=zI Z.2;have I:=zI (Hc.out w1 _ Z.1 (Hd.out w1 Z.2));clear K J Z x14;go_wp2_with fail
     refine I.out.mono ?_;rintro e w2 ⟨rfl,f',H,G⟩;have E:=zI (H.seq He.out G);clear H G;go_wp2_with fail
     go_ret2;exact⟨0,f',t2,_,rfl,E.out.1,E.out.2,.inl ⟨rfl,M.out,by rw[L.out];exact T.out,L.out.symm,rfl⟩⟩
theorem J5z(k:Int)(w:World)(h:Jat w F ge gd N C B D R gen q ps f t rs t0)(hk:0<=k/\t.r.now+k<=1099511627776)(hfs:t.r.fs.length≠1)(hg:(t.tick k).Good)(hn:(t.tick k).need<=(R:Int))(hfit:(layAll gen 0 rs).length+1<=16)(hq:q<=700000):
  Cs 14 #[ge,(k:Int)] w fun e w'=>e= .returned (0:Int)/\∃f',Jat w' (grow F w w') ge gd N C B D R gen (q+4) ps f' (t.tick k) (rs++[opB ⟨2,k,[]⟩]) t0/\Chg F w w':=by
 have Z:=zI (Jro w h);obtain⟨FB,FD,FT,gs,gl,mp,bk,id,a,M,L,K⟩:=h.ex;have x14:=a.bx.at_ 14 (v:= gs) rfl;have z:=h.good.now;have Y:=zI (J2c k w a.st h.good.n.1 hk z hfs (fun i hi=>by have:=h.good.few i hi;omega));have V:=zI (fun w' (hs:StAt w' (grow FT w w') gs R (t.tick k)) (hc:Chg FT w w')=>h.stated a M L K hs hc hg hn);have u:(⟨2,k,[]⟩:Ov).Ok:=⟨(fun s hs=>by cases hs),.inr ⟨rfl,hk.1,by have:=hk.2;show k<=_;omega,rfl⟩⟩;have U:=Jvn (n:=k);have T:=zI (fun W F' (y:Jat W F' ge gd N C B D R gen q ps f (t.tick k) rs t0)=>show Cs 44 #[ge,.agg #[(2:Int),(k:Int),()]] W fun e w'=>e= .returned (0:Int)/\∃f',Jat w' (grow F' W w') ge gd N C B D R gen (q+4) ps f' (t.tick k) (rs++[opB ⟨2,k,[]⟩]) t0/\Chg F' W w' from Jnd ⟨2,k,[]⟩ none 0 0 W y u ⟨Sl.nil _ _,rfl,by unfold maxLen;omega,(fun s hs=>by cases hs)⟩ (by omega) (by omega));have S:=zI (fun W F' f' rs' (y:Jat W F' ge gd N C B D R gen (q+4) ps f' (t.tick k) rs' t0)=>Jrn W y (by omega));clear h a M L K hk hfs hg hn hfit u U z;generalize t.tick k=t2 at*;go_enter Tryz.func14,Tryz.ntmps14;go_wp2_with fail
 refine Z.out.mono ?_;rintro e w0 ⟨rfl,J⟩;subst J;go_wp2_with fail
 refine Y.out.mono ?_;rintro e w1 ⟨rfl,p,o⟩;have x:=V.out w1 p o;have P:=zI x.2;have m:=zI (T.out w1 _ x.1);clear p o x x14;go_wp2_with fail
 refine m.out.mono ?_;rintro e w2 ⟨rfl,f',l,j⟩;have y:=l.seq P.out j;have O:=zI y.2;have g:=zI (S.out w2 _ _ _ y.1);clear l j y;go_wp2_with fail
 refine g.out.mono ?_;rintro e w3 ⟨rfl,d,c⟩;have b:=zI (d.seq O.out c);clear d c;go_wp2_with fail
 go_ret;exact⟨rfl,f',b.out.1,b.out.2⟩
end
theorem J84{w:World}{g N C B D R gd gen id mp bk gl gs:Nat}{T:TypeId}{cs:Array Value}(hb:Bo w g (Jdm N C B D R ⟨gd,0,none⟩ gen id mp bk (some ⟨gl,0,none⟩) 0))(h:Bx w g T cs)(hs:cs.size=16)(h14:cs[14]? =some (.pointer (some ⟨gs,0,none⟩)))(h15:cs[15]? =some (.bool true)):
  Bx w g T (Jow N C B D R gd gen id mp bk gl gs):=by
 obtain⟨T2,more,y⟩:=hb.ex;have e:=h.blk.symm.trans y.blk;injection e with e;injection e with e1 e2;subst e1;subst e2;have x:more.size=2:=by simp at hs;omega
 obtain⟨l⟩:=more
 match l,x with
 | [a,b],_=>
   have v:a= .pointer (some ⟨gs,0,none⟩):=by simpa using h14
   have z:b= .bool true:=by simpa using h15
   subst v;subst z
   simpa using h
theorem J2g{o0 o1:Option (Nat×Nat×Nat)}{k N L:Nat}(h:bsts o0 o1 2=(k,N,L)):(∀x,o0=some x ->x.1<=k)/\∀x,o1=some x ->x.1<=k:=by
 have e:bst (bst (0,0,0) o0) o1=(k,N,L):=h;have k1:(bst (bst (0,0,0) o0) o1).1=k:=by rw[e]
 have mono:∀ (y:Nat×Nat×Nat) (o:Option (Nat×Nat×Nat)),y.1<=(bst y o).1/\∀x,o=some x ->x.1<=(bst y o).1:=by
  intro y o;cases o with
  | none=>exact⟨qab _,fun x hx=>by cases hx⟩
  | some z=>
    unfold bst;dsimp only;split
    · exact⟨by omega,fun x hx=>by cases hx;exact qab _⟩
    · exact⟨qab _,fun x hx=>by cases hx;omega⟩
 have m0:=mono (0,0,0) o0;have m1:=mono (bst (0,0,0) o0) o1;exact⟨fun x hx=>by have:=m0.2 x hx;have:=m1.1;omega,fun x hx=>by have:=m1.2 x hx;omega⟩
section
variable {F:Nat ->Prop} {ge gd N C B D R gen q:Nat} {f:Int ->Option ByteArray} {t t0:Tv} {rs:List (List UInt8)}
theorem Jat.saved{w w':World}(h:Jat w F ge gd N C B D R gen q [] f t rs t0){FB FD FT FB' FD':Nat ->Prop}{gs gl mp bk id mp' bk' q' gl':Nat}{v:SvV}{ps:List Pm}(h1:EngS w FB FD FT ge gs gl N C B D R gd gen id mp bk q (layAll gen 0 rs).length [] f t rs)(h2:∀x,engF FB FD FT ge gl x ->F x)(h3:id<=100*gen)(hv:SvG D N ⟨id,[],f,[]⟩ (Jak t t.tabs.length) v)(hs:Jfi w' FB' FD' ge N C B D R gd (gen+1) mp' bk' q' gl' v ps t)(ht:SvT w w' FB FD FB' FD' ge)(hm:w.heap.size<=mp')(hl:w.heap.size<=gl'/\ ¬ FB' gl'/\ ¬ FD' gl')(hg:gen+1<5000):
  Jat w' (grow F w w') ge gd N C B D R (gen+1) q' ps (savF B N t (gen+1) v) t [] (t.withFs t.r.all)/\Chg F w w':=by
 have k:Bx w' ge 71 (Jow N C B D R gd (gen+1) v.id mp' bk' gl' gs):=by
  obtain⟨cs',z,a,b⟩:=ht.tl _ _ h1.bx;exact J84 hs.st.box z (by rw[a];rfl) (by rw[b 14 (by omega)];rfl) (by rw[b 15 (by omega)];rfl)
 have Z:=h1.bx.lt;have u:∀x,FT x ->Apart FB' FD' ge w' x:=fun x z=>ht.apart (h1.ft x z).1;have s:=h1.st.ins;have j:StAt w' FT gs R t:=h1.st.chg ht.chg (fun x z hf=>Apart.not x (h1.ft x z).1 hf);have p:=hv.id;have Y:=h.good.wv.n
 have W:EngS w' FB' FD' FT ge gs gl' N C B D R gd (gen+1) v.id mp' bk' q' (layAll (gen+1) 0 []).length ps (savF B N t (gen+1) v) t []:=
  ⟨hs.st,k,j,hs.log,fun x z=>⟨u x z,fun e=>by have:=s x z;omega,fun e=>by have:=s x z;omega⟩,⟨hl.2.1,hl.2.2,by omega⟩⟩
 have o:=hs.st.map.lt;refine⟨⟨⟨_,_,_,_,_,_,_,_,W,fun x z=> ?_,?_,.inr ⟨hm,o⟩⟩,?_,?_,h.good,h.need,h.lay,⟨by omega,hg⟩,h.growlow,h.ins.grow ht.chg.size⟩,ht.chg.sub (fun x z=> ?_)⟩
 · rcases z with z | z | z | z | z
   · exact .inl (h2 x (.inl z))
   · exact .inr ⟨by omega,by have:=hs.log.lt;omega⟩
   · exact(ht.fb x z).imp (fun y=>h2 x (.inr (.inr (.inl y)))) (fun y=>y)
   · exact(ht.fd x z).imp (fun y=>h2 x (.inr (.inr (.inr (.inl y))))) (fun y=>y)
   · exact .inl (h2 x (.inr (.inr (.inr (.inr z)))))
 · have:v.id=id+(Jak t t.tabs.length).length:=p
   omega
 · have V:=h.lay.bd
   refine h.log.next.far fun q hq=> ?_;show setS (putN _ _ _ _) _ _ _=_;unfold setS;rw[qay (by omega),Jds _ _ _ _ _ (.inl (by unfold Jb5;split<;>omega)),hv.low _ (by omega)]
 · obtain⟨i,now,nm,ts,fl,es,rsg,l,U,S⟩:=h.svd.ex
   obtain⟨o0,o1,g,d,c⟩:=U.sup;have m:=J2g c;refine⟨_,_,_,_,_,_,_,_,J17 h.lay h.good h.need hv (by show id<1000000;have:=h.gen1;omega) (by omega) ?_ h.log.next,?_⟩
   · by_cases T:gen % 2=0
     · rw[T];exact⟨o0,g,m.1⟩
     · rw[show gen % 2=1 from by omega];exact⟨o1,d,m.2⟩
   · rw[hv.wide]
     have:=h.good.needW;show _=Jbs (t.withFs t.r.all) (t.withFs t.r.all).tabs.length;rw[Jd8];exact this
 · rcases z with rfl | z | z
   · exact h2 x (.inl rfl)
   · exact h2 x (.inr (.inr (.inl z)))
   · exact h2 x (.inr (.inr (.inr (.inl z))))
end
theorem J50:Jd3 90 10 28 38 26:=⟨by omega,rfl,rfl,rfl,rfl⟩
theorem Jvo{D N:Nat}{ps:List Pm}(h:Jij D N ps):∀k,k<=ps.length ->(usOf (ps.take k)).length=((ps.take k).flatMap fun p=>p.e.bl).length
 | 0,_=>by simp[usOf]
 | k+1,hk=>by
   obtain⟨z,y⟩:=h.at_ (k:=k) (by omega);rw[qam (by omega),Jih,Led.length_insAll z y,Jvo h k (by omega),qav,qad]
   simp
theorem J51(b:Option (List Int))(s:ByteArray)(hs:s=⟨#[108,105,118,101]⟩):Led.heldV (Led.w3 none b none) s.data.toList=b.getD []:=by
 subst hs;exact Led.hL3 none b none
theorem Jne(ps:List Pm):(Jcf ps).getD []=usOf ps:=by
 unfold Jcf;by_cases h:ps=[]
 · rw[qa0 h,h];rfl
 · rw[qay h];rfl
theorem Jxm:needW (Jak webT webT.tabs.length)=0:=by have:=Jb2.needW;rw[Jga] at this;omega
theorem Jlt{v v0:SvV}(h:SvG 38 90 v0 (Jak webT webT.tabs.length) v):v.es=[]:=by
 have e:Jak webT webT.tabs.length=[]:=by
  cases hx:Jak webT webT.tabs.length with
  | nil=>rfl
  | cons x r=>
    obtain⟨i,s,y,w,_,z⟩:=Jgu (t:=webT) (k:=webT.tabs.length) (x:=x) (by rw[hx];simp);rw[Jj2] at z;exact absurd rfl z
 rw[e] at h;exact qa5 h.es
theorem Jth{F:Nat ->Prop}{gd N C B D R q:Nat}{f f0:Int ->Option ByteArray}(e0:Nat)(k i:Nat)(now:Int)(nm:ByteArray)(ts:List Ti)(fl:List Int)(es:List En)(rs:List (List Rc))(l:List UInt8)(t:Tv)(lr:List (List UInt8))(w:World)(hD:DsAt w F gd N q f)(hL:Jd3 N C B D R)(hG:Glo w)(hO:Jg6 f0 N C B D R k i now nm ts fl es rs l t lr)(hlow:∀z:Int,z<(D:Int) ->f z=f0 z)(he0:e0<es.length)(hsf:∀j (h1:j<es.length) (h2:j<rs.length),j<e0 ->SegR f D N es[j] rs[j])(hsx:∀h:e0<es.length,SegX f es[e0]):
  Cs 69 #[gd] w (RB w (.tuple #[.pointer none,.pointer none,(),(28:Int)])):=by
 refine(Jvj (f0:=f0) e0 k i now nm ts fl es rs l t lr w hD hL hG hO hlow (qcw he0) hsf hsx).mono ?_;rintro e w' (⟨_,h⟩ | ⟨h,_⟩)
 · exact h
 · omega
theorem Jlu{v:Value}(c:Int)(hc:c≠0)(w:World)(H:Cs 69 #[v] w (RB w (.tuple #[.pointer none,.pointer none,(),(c:Int)]))):
  Cs 24 #[v] w (RB w (c:Int)):=by
 have x:=zI H;have d1:(c==0)=false:=by rw[qat];exact hc
 clear H;go_enter Tryz.func24,Tryz.ntmps24;go_wp2_with fail
 refine x.out.mono ?_;rintro e w1 ⟨rfl,z⟩;have y:=zI z;clear z;go_wp2_with fail
 go_ret;exact⟨rfl,y.out⟩
theorem Jnf(l:List UInt8):leN l<256 ^ l.length:=by
 have h:=Jjc l;have:=congrArg leN h;rw[J6b] at this;have z:0<256 ^ l.length:=Nat.pow_pos (by omega);have:=Nat.mod_lt (leN l) z;omega
theorem Jxn(H:List UInt8)(h:H.length=48):∃ (M R:List UInt8) (f:Fd),M.length=4/\R.length=28/\f.fit/\H=M++f.bytes R:=by
 have cut:∀ (L:List UInt8) (k:Nat),k<=L.length ->∃a b,L=a++b/\a.length=k/\b.length=L.length - k:=fun L k hk=>⟨L.take k,L.drop k,(qa8 k L).symm,by rw[qao];omega,by rw[qa2]⟩;obtain⟨M,L1,rfl,z,y⟩:=cut H 4 (by omega);obtain⟨a1,L2,rfl,e1,x⟩:=cut L1 8 (by omega);obtain⟨a2,L3,rfl,e2,w⟩:=cut L2 1 (by omega);obtain⟨a3,L4,rfl,e3,v⟩:=cut L3 1 (by omega);obtain⟨a4,L5,rfl,e4,u⟩:=cut L4 2 (by omega);obtain⟨a5,L6,rfl,e5,t⟩:=cut L5 2 (by omega);obtain⟨a6,R,rfl,e6,s⟩:=cut L6 2 (by omega);have b1:=Jnf a1;have b2:=Jnf a2;have b3:=Jnf a3;have b4:=Jnf a4;have b5:=Jnf a5;have b6:=Jnf a6;have k1:=Jjc a1;have k2:=Jjc a2;have k3:=Jjc a3;have k4:=Jjc a4;have k5:=Jjc a5;have k6:=Jjc a6;rw[e1] at b1 k1;rw[e2] at b2 k2;rw[e3] at b3 k3;rw[e4] at b4 k4;rw[e5] at b5 k5;rw[e6] at b6 k6;refine⟨M,R,⟨leN a1,leN a2,leN a3,leN a4,leN a5,leN a6⟩,z,by omega,⟨by simpa using b1,by simpa using b2,by simpa using b3,by simpa using b4,by simpa using b5,by simpa using b6⟩,?_⟩;unfold Fd.bytes;dsimp only;rw[k1,k2,k3,k4,k5,k6]
theorem J2h{f:Int ->Option ByteArray}{D N:Nat}{e:En}{l:List Rc}(h:SegR f D N e l)(hid:1<=e.id/\e.id<18446744073709551616)(ht:e.tier<10)(hs:e.shard<8)(hnd:e.bl.Nodup){p0:Nat}(hp:p0<e.bl.length){S T:List UInt8}(hS:Jav f e.bl[p0]=strOf S){H:List UInt8}(hH:H.length=48)(hT:T=H++S.drop 48)(hne:H≠S.take 48):SegX (setS f e.bl[p0] (strOf T)) e:=by
 have t:=h.on p0 hp;have y:p0<sgN l.length:=by rw[<- h.len];exact hp
 rw[hS,qah (by rw[Jcz];exact y),Ju2 y] at t;have z:=Jrl (qbr t);rw[<- h.len] at z;have e1:sgBk e.id e.tier e.shard p0 e.bl.length (sgPt l p0)=sgHd e.id e.tier e.shard p0 e.bl.length (sgPt l p0).length++Je0 (sgPt l p0):=rfl;rw[e1] at z
 have x:S.drop 48=Je0 (sgPt l p0):=by
  rw[z,<- Jff e.id e.tier e.shard p0 e.bl.length (sgPt l p0).length,List.drop_left]
 have w:S.take 48=sgHd e.id e.tier e.shard p0 e.bl.length (sgPt l p0).length:=by
  rw[z]
  conv=>lhs;lhs;rw[<- Jff e.id e.tier e.shard p0 e.bl.length (sgPt l p0).length]
  rw[List.take_left]
 obtain⟨M,R,fd,r,p,v,rfl⟩:=Jxn H hH;refine⟨l,p0,M,R,fd,e.bl.map (Jav (setS f e.bl[p0] (strOf T))),⟨hid,ht,hs,h.fine,h.lt,h.n.2,hp,r,p,v,?_,h.len,by rw[qa4],?_,fun q hq hqp=> ?_⟩,?_⟩
 · rintro⟨rfl,rfl,rfl⟩
   refine hne ?_;rw[w];simp[sgHd,Jqv,Fd.bytes]
 · rw[qb3,qah hp]
   show some (Jav (setS f e.bl[p0] (strOf T)) e.bl[p0])=_;unfold Jav setS;rw[qa0 rfl,hT,x,qas];rfl
 · rw[qb3,qah hq]
   have u:e.bl[q]≠e.bl[p0]:=fun he=>hqp ((List.getElem_inj hnd).1 he);show some (Jav (setS f e.bl[p0] (strOf T)) e.bl[q])=_;have s:=h.on q hq;rw[qah (by rw[Jcz,<- h.len];exact hq),Ju2 (by rw[<- h.len];exact hq),<- h.len] at s;rw[<- s];unfold Jav setS;rw[qay u]
 · unfold bksL
   rw[qcl];rfl
theorem SegR.other{f:Int ->Option ByteArray}{D N:Nat}{e:En}{l:List Rc}(h:SegR f D N e l){z:Int}(hz:z∉e.bl)(b:ByteArray):SegR (setS f z b) D N e l:=by
 refine⟨fun j hj=> ?_,h.len,h.n,h.fine,h.lt,h.bl⟩;have y:e.bl[j]≠z:=fun he=>hz (by rw[<- he];exact qan hj);rw[<- h.on j hj];unfold Jav setS;rw[qay y]
