/- Laws that the walk of the last text wants. -/
import Derived.Test.YtglmhddbhhcjdaaGreatDoorC29
import Derived.Test.YtglmhddbhhcjdaaGreatDoorC30
set_option maxRecDepth 100000
set_option linter.unusedSimpArgs false
set_option maxHeartbeats 4000000
namespace Go.Proofs.YtglmhddbhhcjdaaGreatDoor
open Go.RowKit
def Apart (FB FD:Nat ->Prop) (gx:Nat) (w:World) (x:Nat):Prop:= ¬ FB x/\ ¬ FD x/\x≠gx/\x<w.heap.size
structure SvT (w w':World) (FB FD FB' FD':Nat ->Prop) (gx:Nat):Prop where
 chg:Chg (fun x=>x=gx\/FB x\/FD x) w w'
 fb:∀x,FB' x ->grow FB w w' x
 fd:∀x,FD' x ->grow FD w w' x
 tl:Tl gx w w'
theorem SvT.refl(w:World)(FB FD:Nat ->Prop)(gx:Nat):SvT w w FB FD FB FD gx:=⟨Chg.refl _ _,fun _ h=> .inl h,fun _ h=> .inl h,Tl.refl _ _⟩
theorem SvT.of_below{w w':World}(FB FD:Nat ->Prop)(gx:Nat)(h:Below w.heap.size w w'):SvT w w' FB FD FB FD gx:=⟨Chg.of_below h,fun _ h=> .inl h,fun _ h=> .inl h,Tl.of_below gx h⟩
theorem SvT.trans{w w1 w':World}{FB FD FB1 FD1 FB' FD':Nat ->Prop}{gx:Nat}(h:SvT w w1 FB FD FB1 FD1 gx)(k:SvT w1 w' FB1 FD1 FB' FD' gx):SvT w w' FB FD FB' FD' gx:=by
 refine⟨h.chg.trans k.chg ?_,fun x z=> ?_,fun x z=> ?_,h.tl.trans k.tl⟩
 · rintro x (rfl | z | z)
   · exact .inl (.inl rfl)
   · exact(h.fb x z).imp (fun y=> .inr (.inl y)) (fun y=>y.1)
   · exact(h.fd x z).imp (fun y=> .inr (.inr y)) (fun y=>y.1)
 · rcases k.fb x z with y | y
   · exact Jcj (h.fb x y) k.chg.size
   · exact .inr (Jc5 y h.chg.size)
 · rcases k.fd x z with y | y
   · exact Jcj (h.fd x y) k.chg.size
   · exact .inr (Jc5 y h.chg.size)
theorem SvT.apart{w w':World}{FB FD FB' FD':Nat ->Prop}{gx x:Nat}(h:SvT w w' FB FD FB' FD' gx)(ha:Apart FB FD gx w x):Apart FB' FD' gx w' x:=by
 obtain⟨z,v,u,t⟩:=ha;refine⟨fun hx=> ?_,fun hx=> ?_,u,qar t h.chg.size⟩
 · rcases h.fb x hx with y | y
   · exact z y
   · have:=y.1;omega
 · rcases h.fd x hx with y | y
   · exact v y
   · have:=y.1;omega
theorem Apart.not{w:World}{FB FD:Nat ->Prop}{gx:Nat}:Dj (Apart FB FD gx w) (fun x=>x=gx\/FB x\/FD x):=by
 rintro x ⟨z,y,v,_⟩ (rfl | h | h)
 · exact v rfl
 · exact z h
 · exact y h
structure SvS (w:World) (FB FD:Nat ->Prop) (gx N C B D R gd gen id mp bk q nP:Nat) (lg:Option Addr) (bad:Int) (pf:Nat ->Nat ->Option PRaw) (us:List Int) (a b m:Option (List Int)) (f:Int ->Option ByteArray):Prop where
 box:Bo w gx (Jdm N C B D R ⟨gd,0,none⟩ gen id mp bk lg bad)
 map:PMap w mp nP pf
 book:Led.BookAt w FB bk (D:Int) ((N - D:Nat):Int) us (Led.w3 a b m)
 disk:DsAt w FD gd N q f
 dj:Dj FB FD
 ngx: ¬ FB gx/\ ¬ FD gx
 nmp: ¬ FB mp/\ ¬ FD mp
section
variable {w w':World} {FB FD:Nat ->Prop} {gx N C B D R gd gen id mp bk q nP:Nat} {lg:Option Addr} {bad:Int} {pf:Nat ->Nat ->Option PRaw} {us:List Int} {a b m:Option (List Int)} {f:Int ->Option ByteArray}
theorem SvS.ne(h:SvS w FB FD gx N C B D R gd gen id mp bk q nP lg bad pf us a b m f):mp≠gx:=fun e=>by
 obtain⟨cs',T,z⟩:=h.box.blk;exact h.map.nocells _ _ _ (by rw[e];exact z)
theorem SvS.below(h:SvS w FB FD gx N C B D R gd gen id mp bk q nP lg bad pf us a b m f)(hb:Below w.heap.size w w'):SvS w' FB FD gx N C B D R gd gen id mp bk q nP lg bad pf us a b m f:=
 ⟨h.box.below hb,h.map.below hb,h.book.below hb,h.disk.below hb,h.dj,h.ngx,h.nmp⟩
theorem SvS.far(h:SvS w FB FD gx N C B D R gd gen id mp bk q nP lg bad pf us a b m f){G:Nat ->Prop}(hc:Chg G w w')(hG:∀x,G x -> ¬ FB x/\ ¬ FD x/\x≠gx/\x≠mp):SvS w' FB FD gx N C B D R gd gen id mp bk q nP lg bad pf us a b m f:=
 ⟨h.box.chg hc (fun g=>(hG _ g).2.2.1 rfl),h.map.chg hc (fun g=>(hG _ g).2.2.2 rfl),h.book.chg hc (fun x hx g=>(hG x g).1 hx),h.disk.chg hc (fun x hx g=>(hG x g).2.1 hx),h.dj,h.ngx,h.nmp⟩
theorem SvS.boxed(h:SvS w FB FD gx N C B D R gd gen id mp bk q nP lg bad pf us a b m f)(k:Nat)(v:Value){gen' id' mp' bk':Nat}{lg':Option Addr}{bad':Int}(e:(Jdm N C B D R ⟨gd,0,none⟩ gen id mp bk lg bad).setIfInBounds k v=Jdm N C B D R ⟨gd,0,none⟩ gen' id' mp bk lg' bad')(_hm:mp'=mp)(_hk:bk'=bk)(hk':k<14:=by decide):
  SvS (w.setCell ⟨gx,k,none⟩ v) FB FD gx N C B D R gd gen' id' mp bk q nP lg' bad' pf us a b m f/\SvT w (w.setCell ⟨gx,k,none⟩ v) FB FD FB FD gx:=by
 have z:Chg (fun x=>x=gx) w (w.setCell ⟨gx,k,none⟩ v):=Chg.set (F:=fun x=>x=gx) w ⟨gx,k,none⟩ v rfl;refine⟨⟨by rw[<- e];exact h.box.set k v hk',h.map.chg z (fun e=>h.ne e),h.book.chg z (fun x hx e=>h.ngx.1 (by rw[<- e];exact hx)),h.disk.chg z (fun x hx e=>h.ngx.2 (by rw[<- e];exact hx)),h.dj,h.ngx,h.nmp⟩,z.sub (fun x e=> .inl e),fun _ h=> .inl h,fun _ h=> .inl h,Tl.set gx w k v hk'⟩
theorem SvS.booked(h:SvS w FB FD gx N C B D R gd gen id mp bk q nP lg bad pf us a b m f){FB':Nat ->Prop}{us':List Int}{a' b' m':Option (List Int)}(hk:Led.BookAt w' FB' bk (D:Int) ((N - D:Nat):Int) us' (Led.w3 a' b' m'))(hc:Chg FB w w')(hs:∀x,FB' x ->grow FB w w' x):
  SvS w' FB' FD gx N C B D R gd gen id mp bk q nP lg bad pf us' a' b' m' f/\SvT w w' FB FD FB' FD gx:=by
 have far:∀x,x<w.heap.size -> ¬ FB x -> ¬ FB' x:=fun x hx hn hf=>by
  rcases hs x hf with y | y
  · exact hn y
  · have:=y.1;omega
 refine⟨⟨h.box.chg hc h.ngx.1,h.map.chg hc h.nmp.1,hk,h.disk.chg hc h.dj.symm,fun x hx hd=> ?_,⟨far _ h.box.lt h.ngx.1,h.ngx.2⟩,⟨far _ h.map.lt h.nmp.1,h.nmp.2⟩⟩,hc.sub (fun x e=> .inr (.inl e)),hs,fun _ h=> .inl h,Tl.of_chg hc h.ngx.1⟩;exact far x (h.disk.ins x hd) (fun hf=>h.dj x hf hd) hx
theorem SvS.disked(h:SvS w FB FD gx N C B D R gd gen id mp bk q nP lg bad pf us a b m f){q':Nat}{f':Int ->Option ByteArray}(hk:DsW w FD w' gd N q' f'):
  SvS w' FB (grow FD w w') gx N C B D R gd gen id mp bk q' nP lg bad pf us a b m f'/\SvT w w' FB FD FB (grow FD w w') gx:=by
 have z:=hk.chg
 have far:∀x,x<w.heap.size -> ¬ FD x -> ¬ grow FD w w' x:=fun x hx hn hf=>by
  rcases hf with y | y
  · exact hn y
  · have:=y.1;omega
 refine⟨⟨h.box.chg z h.ngx.2,h.map.chg z h.nmp.2,h.book.chg z h.dj,hk.at_,fun x hx hd=> ?_,⟨h.ngx.1,far _ h.box.lt h.ngx.2⟩,⟨h.nmp.1,far _ h.map.lt h.nmp.2⟩⟩,z.sub (fun x e=> .inr (.inr e)),fun _ h=> .inl h,fun _ h=>h,Tl.of_chg z h.ngx.2⟩;exact far x (h.book.ins x hx) (h.dj x hx) hd
end
def putB (f:Int ->Option ByteArray):List Int ->List ByteArray ->Int ->Option ByteArray
 | z::zs,s::ss=>putB (setS f z s) zs ss
 | _,_=>f
theorem J0v(zs:List Int)(ss:List ByteArray)(z:Int)(s:ByteArray)(h:zs.length=ss.length):∀f,putB f (zs++[z]) (ss++[s])=setS (putB f zs ss) z s:=by
 induction zs generalizing ss with
 | nil=>
   have:ss=[]:=qa5 (by simpa using h.symm);subst this;intro f;rfl
 | cons a r ih=>
   cases ss with
   | nil=>simp at h
   | cons t u=>
     intro f;exact ih u (by simpa using h) (setS f a t)
def Jl3 (D N:Nat) (us:List Int) (k:Nat):List Int:=(Led.freeIn (D:Int) us (N - D)).take k
theorem Ju4{id tier shard:Nat}{l:List Rc}(hf:∀r∈l,r.Fine):∀s∈sgL id tier shard l,s.size=256:=by
 intro s z;unfold sgL at z;obtain⟨p,_,rfl⟩:=qbn.1 z;rw[Jaa];exact Jf9 (fun r hr=>hf r (Jcn hr)) (by rw[Jj0];omega)
theorem Jfg{w:World}{B:Nat}{e:TypeId}{k n c:Nat}{a:Option (Nat×Nat)}{xs:List Value}(h:w.ownsRow B e k (.slice (adr a) n c) n xs):∀x,adr a=some x ->B<=x.block/\x.block<w.heap.size:=by
 intro x e1;have z:=h;rw[e1] at z;exact z.lt x.block rfl
theorem J90{w:World}{B:Nat}{e:TypeId}{k n c z:Nat}{a:Option (Nat×Nat)}{xs:List Value}(h:w.ownsRow B e k (.slice (adr a) n c) n xs)(hz:(Value.slice (adr a) n c).ownBlock=some z):adr a=some ⟨z,0,none⟩:=by
 rcases h.2 with⟨y,_⟩ | ⟨g,cap,cur,y,_⟩
 · rw[y] at hz;simp[Value.ownBlock] at hz
 · injection y with y
   rw[y] at hz ⊢;simp[Value.ownBlock] at hz;rw[hz]
theorem J8g{FB FD:Nat ->Prop}{gx N C B D R gd gen id mp bk q nP:Nat}{lg:Option Addr}{bad:Int}{pf:Nat ->Nat ->Option PRaw}{us:List Int}{a b m:Option (List Int)}{f:Int ->Option ByteArray}(x:Wm)(w:World)(h:SvS w FB FD gx N C B D R gd gen id mp bk q nP lg bad pf us a b m f)(hL:Jd3 N C B D R)(hid:id+1<18446744073709551616)(ht:x.t<10)(hs:x.s<8)(hr:Rcs w (adr x.B) x.l.length x.l)(hA:AIn (Apart FB FD gx w) (adr x.B))(hf:∀r∈x.l,r.Fine)(ho:x.l.Pairwise Rc.lt)(hn:1<=x.l.length/\x.l.length<=10000)(hc:x.l.length<=x.d)(hroom:(sgN x.l.length:Int)<=((N - D:Nat):Int) - us.length)(hq:q<=700000):
  Cs 246 #[gx,x.raw.val] w fun e w'=>∃FB' FD' A' c',e= .returned (.tuple #[(Pm.raw ⟨⟨id+1,x.t,x.s,Jl3 D N us (sgN x.l.length)⟩,x.l,A',c',x.B,x.d⟩).val,(0:Int)])/\
   SvS w' FB' FD' gx N C B D R gd gen (id+1) mp bk (q+2*sgN x.l.length) nP lg bad pf (Led.insAll us (Jl3 D N us (sgN x.l.length))) (some (Led.insAll (a.getD []) (Jl3 D N us (sgN x.l.length)))) b m (putB f (Jl3 D N us (sgN x.l.length)) (sgL (id+1) x.t x.s x.l))/\
   SvT w w' FB FD FB' FD' gx/\PmAt w' (Apart FB' FD' gx w') ⟨⟨id+1,x.t,x.s,Jl3 D N us (sgN x.l.length)⟩,x.l,A',c',x.B,x.d⟩/\AIn (made w w') (adr A')/\Led.DrawLaw (D:Int) ((N - D:Nat):Int) us (sgN x.l.length:Int) (Jl3 D N us (sgN x.l.length)):=by
 obtain⟨t,s,l,Bx',d⟩:=x;dsimp only at ht hs hr hA hf ho hn hc hroom ⊢;obtain⟨id1,Hb⟩:=exE (id+1);rw[<- Hb] at hid ⊢;have Tn:38<=D/\D<=N/\N<=4096:=by have:=hL.bd;have:=hL.n;omega
 have Kv:=zI Tn;obtain⟨len,I⟩:=exE l.length;have Hc:=zI I;obtain⟨k,hk⟩:=exE (sgN l.length);have HK:=zI hk;have To:1<=k/\k<=4096:=by rw[hk];constructor;(unfold sgN;omega);(rw[<- hk];omega)
 have Tp:=zI (Ju4 (id:=id1) (tier:=t) (shard:=s) hf);have Hn:=zI (show(sgL id1 t s l).length=k from by rw[Jcz,hk]);have Pj:IntKind.u64.wrap ((id:Int)+1)=(id1:Int):=by rw[IntWalk.u64_in _ (by omega)];omega
 have Tq:=zI hroom;rw[<- I] at hr hn hc;rw[<- hk] at hroom ⊢
 have e0:(Wm.raw ⟨t,s,l,Bx',d⟩).val= .agg #[.int .u64 0,(t:Int),(s:Int),(0:Int),(k:Int),(),.slice (adr Bx') len d]:=by
  unfold Wm.raw PRaw.val;dsimp only;rw[<- hk,<- I];rfl
 rw[e0];obtain⟨gp,E⟩:=exE w.heap.size;obtain⟨gr,o⟩:=exE (w.heap.size+1);obtain⟨w1,Hd⟩:=exE ((w.alloc (.cells #[.int .u64 0,(t:Int),(s:Int),(0:Int),(k:Int),(),.slice (adr Bx') len d] 316)).alloc (.cells #[.int .u64 0,(0:Int),(0:Int),(0:Int),(0:Int),(),()] 316));have Kw:(w.alloc (.cells #[.int .u64 0,(t:Int),(s:Int),(0:Int),(k:Int),(),.slice (adr Bx') len d] 316)).heap.size=w.heap.size+1:=by simp
 have He:Below w.heap.size w w1:=by rw[Hd];exact((qaa _ w).alloc (qab _) _).alloc (by simp) _
 have Kx:Bx w1 gp 316 #[.int .u64 0,(t:Int),(s:Int),(0:Int),(k:Int),(),.slice (adr Bx') len d]:=by rw[Hd,E];exact(Bx.new w _ _).alloc _
 have Ky:Bx w1 gr 316 #[.int .u64 0,(0:Int),(0:Int),(0:Int),(0:Int),(),()]:=by
  have:=Bx.new (w.alloc (.cells #[.int .u64 0,(t:Int),(s:Int),(0:Int),(k:Int),(),.slice (adr Bx') len d] 316)) 316 #[.int .u64 0,(0:Int),(0:Int),(0:Int),(0:Int),(),()];rw[Kw,<- o] at this;rw[Hd];exact this
 have Ho:=h.below He;have Hz:=hr.below He;have Tr:=h.box.lt;have Kb:=h.book.ins;have Kc:=h.disk.ins;have Ts:=h.map.lt;have y: ¬ FB gp/\ ¬ FD gp/\gp≠gx/\gp≠mp:=⟨fun p=>by have:=Kb _ p;omega,fun p=>by have:=Kc _ p;omega,by omega,by omega⟩;have c: ¬ FB gr/\ ¬ FD gr/\gr≠gx/\gr≠mp:=⟨fun p=>by have:=Kb _ p;omega,fun p=>by have:=Kc _ p;omega,by omega,by omega⟩
 -- the number
 obtain⟨w2,Hf⟩:=exE (w1.setCell ⟨gx,9,none⟩ (.int .u64 (id1:Int)));have Hp:=Ho.boxed 9 (.int .u64 (id1:Int)) (gen':=gen) (id':=id1) (lg':=lg) (bad':=bad) rfl rfl rfl;rw[<- Hf] at Hp;have Z:Chg (fun x=>x=gx) w1 w2:=by rw[Hf];exact Chg.set (F:=fun x=>x=gx) w1 ⟨gx,9,none⟩ _ rfl
 have Hq:=Kx.chg Z y.2.2.1;have Kz:=Ky.chg Z c.2.2.1;have H0:=Hz.chg Z (fun a e=>(hA a e).2.2.1)
 -- its own number
 obtain⟨w3,Hr⟩:=exE (w2.setCell ⟨gp,0,none⟩ (.int .u64 (id1:Int)));have A:Chg (fun x=>x=gp) w2 w3:=by rw[Hr];exact Chg.set (F:=fun x=>x=gp) w2 ⟨gp,0,none⟩ _ rfl
 have KC:=Hp.1.far A (fun x e=>by rw[e];exact y);have KD:Bx w3 gp 316 #[.int .u64 (id1:Int),(t:Int),(s:Int),(0:Int),(k:Int),(),.slice (adr Bx') len d]:=by rw[Hr];exact Hq.set 0 _
 have KE:=Kz.chg A (show gr≠gp from by omega);have H9:=H0.chg A (fun a e=>by have:=(hA a e).2.2.2;show a.block≠gp;omega);have KG:SvT w w3 FB FD FB FD gx:=⟨((Chg.of_below He).trans Z (fun x e=> .inl (.inl e))).trans A (fun x e=> .inr (by rw[e,E];exact qab _)),fun _ h=> .inl h,fun _ h=> .inl h,((Tl.of_below gx He).trans (by rw[Hf];exact Tl.set gx w1 9 _ (by decide))).trans (Tl.of_chg A (fun e=>y.2.2.1 e.symm))⟩;have hJ:=zI KD;have KH:=zI KE;have KI:=zI H9;have Hs:=zI KC;have KJ:=zI KG;have Tt:=zI Hd;have Tu:=zI Hf;have Tw:=zI Hr;have KK:=zI E;have Kd:=zI o;have Ht:=zI hA;have Tx:=zI y;have KL:=zI c;have x9:=Ho.box.at_ 9 (v:= .int .u64 (id:Int)) rfl;have f9:=Ho.box.free 9;have y9:=Hp.1.box.at_ 9 (v:= .int .u64 (id1:Int)) rfl;have z0:=Hq.at_ 0 (v:= .int .u64 0) rfl;have zf:=Hq.free 0;have Ty:=zI (fun W (hR:Rcs W (adr Bx') len l)=>Jlj id1 t s (adr Bx') len d l W (by omega) hid ht hs hR hf ho hn.2 hc);have Pk:=zI Hb;clear h hr hA hf ho hroom e0 E o Hd Kw He Kx Ky Ho Hz Tr Kb Kc Ts y c Hf Hp Z Hq Kz H0 Hr A KC KD KE H9 KG hk I Hb;go_enter Tryz.func246,Tryz.ntmps246;go_upto_region 1 with fail
 rw[<- Tt.out,<- Kd.out,<- KK.out];go_upto_region 2 with fail
 rw[<- Tu.out];go_upto_region 3 with fail
 rw[<- Tw.out];clear x9 f9 y9 z0 zf;have p0:=hJ.out.at_ 0 (v:= .int .u64 (id1:Int)) rfl;have p1:=hJ.out.at_ 1 (v:= (t:Int)) rfl;have p2:=hJ.out.at_ 2 (v:= (s:Int)) rfl;have p6:=hJ.out.at_ 6 (v:= .slice (adr Bx') len d) rfl;go_wp2_with fail
 refine(Ty.out _ KI.out).mono ?_;rintro e w4 ⟨v,rfl,Hu,K⟩;have KM:sgN len=k:=by rw[HK.out,Hc.out]
 rw[KM] at Hu;obtain⟨A4,c4,rfl,_⟩:=Jao Hu;have Hv:=zI Hu;have Hg:=zI (Hs.out.below K);have Tz:=zI (KJ.out.trans (SvT.of_below FB FD gx K));have TA:=zI (hJ.out.below K);have TB:=zI (KH.out.below K);have TC:=zI (KI.out.below K);have TD:=zI K.size;have KN:=Led.w3_sum a b m
 have KO:Hid (Cs 291 #[bk,.string ⟨#[102,114,101,115,104]⟩,(k:Int)] w4 fun e w'=>e= .returned (0:Int)/\Led.BookAt w' (grow FB w4 w') bk (D:Int) ((N - D:Nat):Int) us (Led.w4 (k:Int) a b m)/\Chg FB w4 w'):=by
  have X:=Led.reserve_b ⟨#[102,114,101,115,104]⟩ (k:Int) w4 Hg.out.book (by decide) ⟨by omega,by rw[KN];have:=Tq.out;rw[<- HK.out] at this;omega⟩ (by have:=Led.w3_len a b m;omega);rw[sF,Led.res4] at X;exact zI X
 have x11:=Hg.out.box.at_ 11 (v:= bk) rfl;clear Hu K KM KN p0 p1 p2 p6;go_wp2_with fail
 refine KO.out.mono ?_;rintro e w5 ⟨rfl,Ke,Kf⟩;have KP:=zI (Hg.out.box.chg Kf Hg.out.ngx.1);have Kg:=zI Kf;obtain⟨FB5,Hh⟩:=exE (grow FB w4 w5);rw[<- Hh] at Ke;have Y:=zI Hh
 have KQ:Hid (Cs 292 #[bk,.string ⟨#[102,114,101,115,104]⟩,(k:Int)] w5 fun e w'=>∃r O,e= .returned (.tuple #[r,(0:Int)])/\O=Jl3 D N us k/\w'.ownsRow w5.heap.size 3 1 r O.length (O.map (Value.int .i64))/\Led.DrawLaw (D:Int) ((N - D:Nat):Int) us (k:Int) O/\Led.BookAt w' FB5 bk (D:Int) ((N - D:Nat):Int) (Led.insAll us O) (Led.w3 (some (Led.insAll (a.getD []) O)) b m)/\Chg FB5 w5 w'):=by
  have X:=Led.draw_b ⟨#[102,114,101,115,104]⟩ (k:Int) w5 Ke (by decide) (by omega) (Led.find4 (k:Int) a b m) (Int.le_refl _);rw[sF] at X;refine zI (X.mono ?_);rintro e w' ⟨r,O,L,h2,h3,h4,h5,h6⟩;rw[Led.draw4] at h5;refine⟨r,O,L,?_,h3,h4,h5,h6⟩;rw[h2];unfold Jl3;simp
 have y11:=KP.out.at_ 11 (v:= bk) rfl;clear x11 Ke Kf Hh;go_wp2_with fail
 refine KQ.out.mono ?_;rintro e w6 ⟨r,O,rfl,hO,V,Kh,KR,Ki⟩;have Kj:O.length=k:=by have:=Kh.len;omega
 rw[Kj] at V;obtain⟨a5,c5,rfl⟩:=Jsw V;have y:=Tx.out;have c:=KL.out;have E:=KK.out;have o:=Kd.out;have H:∀x,FB x ->x<w3.heap.size:=Hs.out.book.ins;have Hi:∀x,FD x ->x<w3.heap.size:=Hs.out.disk.ins;have TE:=KJ.out.chg.size;have KS:=hJ.out.lt;have KT:=KH.out.lt;have TF:=TD.out;have TG:=Kg.out.size;have KU:=Ki.size;have Hj:∀x,x<w4.heap.size -> ¬ FB x -> ¬ FB5 x:=fun x hx hn p=>by rw[Y.out] at p;rcases p with p | p;exact hn p;have:=p.1;omega
 have Hk:∀x,FB5 x ->x<w5.heap.size:=fun x p=>by
  rw[Y.out] at p;rcases p with p | p
  · have:=H x p;omega
  · exact p.2
 have i:Chg FB w4 w6:=Kg.out.trans Ki (fun x h=>by rw[Y.out] at h;exact h.imp (fun h=>h) (fun h=>h.1));have Kk:=Hg.out.booked KR i (fun x h=>by rw[Y.out] at h;exact Jcj h KU);obtain⟨w7,Hl⟩:=exE (w6.setCell ⟨gp,5,none⟩ (.slice (adr a5) k c5));have U:Chg (fun x=>x=gp) w6 w7:=by rw[Hl];exact Chg.set (F:=fun x=>x=gp) w6 ⟨gp,5,none⟩ _ rfl
 have TH:w7.heap.size=w6.heap.size:=by rw[Hl];simp
 have KV:=Kk.1.far U (fun x e=>by rw[e];exact⟨Hj gp (by omega) y.1,y.2.1,y.2.2.1,y.2.2.2⟩);have Hw:=TA.out.chg i y.1;have KW:Bx w7 gp 316 #[.int .u64 (id1:Int),(t:Int),(s:Int),(0:Int),(k:Int),.slice (adr a5) k c5,.slice (adr Bx') len d]:=by rw[Hl];exact Hw.set 5 _
 have KX:=(TB.out.chg i c.1).chg U (show gr≠gp from by omega);have KY:=(TC.out.chg i (fun a e=>(Ht.out a e).1)).chg U (fun a e=>by have:=(Ht.out a e).2.2.2;show a.block≠gp;omega);have KZ:=Jax (Jax Hv.out i (fun b hb p=>by have L:=(Hv.out.lt b hb).1;have h2:=H b p;omega)) U (fun b hb p=>by have L:=(Hv.out.lt b hb).1;omega);have Hx:=Jax V U (fun b hb p=>by have L:=(V.lt b hb).1;omega);have Hm:=Tz.out.trans Kk.2;have Kl:SvT w w7 FB FD FB5 FD gx:=⟨Hm.chg.trans U (fun x e=> .inr (by rw[e];omega)),fun x h=>Jcj (Hm.fb x h) (by omega),fun x h=>Jcj (Hm.fd x h) (by omega),Hm.tl.trans (Tl.of_chg U (fun e=>y.2.2.1 e.symm))⟩;have K7:=zI (show AIn (Apart FB5 FD gx w7) (adr Bx') from fun a e=>Kl.apart (Ht.out a e));have TI:=zI (show Apart FB5 FD gx w7 gp from⟨Hj gp (by omega) y.1,y.2.1,y.2.2.1,by omega⟩);have K8:=zI (show Apart FB5 FD gx w7 gr from⟨Hj gr (by omega) c.1,c.2.1,c.2.2.1,by omega⟩);have K9:=Hs.out.box.lt
 have Ta:=zI (show AIn (Apart FB5 FD gx w7) (adr a5) from fun a e=>by
  have L:=Jfg Hx a e;exact⟨fun h=>by have:=Hk _ h;omega,fun h=>by have:=Hi _ h;omega,by omega,L.2⟩)
 have Tb:=zI (show AIn (made w w7) (adr a5) from fun a e=>by
  have L:=Jfg Hx a e;exact⟨by omega,L.2⟩)
 have Tc:=zI (show ∀z,(Value.slice A4 k c4).ownBlock=some z ->Apart FB5 FD gx w7 z from fun z e=>by
  have L:=Hv.out.lt z e;refine⟨Hj z L.2 (fun h=>by have:=H _ h;omega),fun h=>by have:=Hi _ h;omega,by omega,by omega⟩)
 have TJ:=zI KW;have TK:=zI KX;have TL:=zI KY;have TM:=zI KZ;have Td:=zI Hx;have TN:=zI KV;have TO:=zI Kl;have Km:=zI Kh;have HO:=zI hO;have Ha:=zI Kj;have TP:=zI Hl;have g5:=Hw.at_ 5 (v:= ()) rfl;have g5f:=Hw.free 5;clear y c E o H Hi TE KS KT TF TG KU Hj Hk i Kk U TH KV Hw KW KX KY KZ Hx Hm Kl hO Kh V KR Ki Kj Hl K9 y11;clear KP Kg Y KQ KO;go_wp2_with fail
 clear g5 g5f;rw[<- TP.out];go_loopw [9,10,11,77] (fun _ _ _ j wr=>∃ (q':Nat) (FDr:Nat ->Prop),q'<=k/\j= .int .i64 (q':Int)/\SvS wr FB5 FDr gx N C B D R gd gen id1 mp bk (q+2*q') nP lg bad pf (Led.insAll us O) (some (Led.insAll (a.getD []) O)) b m (putB f (O.take q') ((sgL id1 t s l).take q'))/\SvT w7 wr FB5 FD FB5 FDr gx) (fun _ _ _ j _=>k - (intOf j).toNat)
 case atStart=>exact⟨0,FD,qaq _,rfl,by simpa[putB] using TN.out,SvT.refl _ _ _ _⟩
 case round=>
  obtain⟨q',FDr,Pn,rfl,hV,hT⟩:=hrel;have T:=Dj.symm (F:=fun x=>x=gx\/FB5 x\/FD x) (G:=Apart FB5 FD gx w7) (fun x L h2=>Apart.not x h2 L);have HV:=zI hV;have HT:=zI hT;have P:=zI (TJ.out.chg hT.chg (T gp TI.out));have TQ:=zI (Jax TM.out hT.chg (fun z e=>T z (Tc.out z e)));have Kn:=zI (Jax Td.out hT.chg (fun z e=>T z (Ta.out ⟨z,0,none⟩ (J90 Td.out e))));clear hV hT T;by_cases Te:q'<k
  · have K1:q'<O.length:=by rw[Ha.out];exact Te
    have K2:q'<(sgL id1 t s l).length:=by rw[Hn.out];exact Te
    obtain⟨_,_,e1,Tf⟩:=Jao TQ.out;cases e1
    obtain⟨_,_,e2,Tg⟩:=Jao Kn.out;cases e2
    obtain⟨b1,o1,Ko,Pf,Th⟩:=Tf.at_ (by intro e;have:=congrArg List.length e;rw[qa4,Hn.out] at this;simp at this;omega);obtain⟨b2,o2,Kp,Pg,Z⟩:=Tg.at_ (by intro e;have:=congrArg List.length e;rw[qa4,Ha.out] at this;simp at this;omega);have s1:=Th q' ((sgL id1 t s l)[q']) (by rw[qb3,qah K2];rfl);have s2:=Z q' (O[q']:Int) (by rw[qb3,qah K1];rfl);have TR:=zI (Tp.out _ (qan K2));have TT:=Km.out.fresh _ (qan K1);have Tj:=zI (J0v (O.take q') ((sgL id1 t s l).take q') O[q'] (sgL id1 t s l)[q'] (by rw[qao,qao,Ha.out,Hn.out]) f);rw[<- qam K1,<- qam K2] at Tj;generalize (sgL id1 t s l)[q']'K2=S at*;generalize O[q']'K1=z at*;obtain⟨zz,rfl⟩:∃zz:Nat,z=(zz:Int):=⟨z.toNat,by omega⟩;have TU:zz<N:=by have:=Kv.out;omega
    have Kq:=(qaa wr.heap.size wr).drew;have Kr:=zI (HV.out.below Kq);have Ka:=zI ((DsW.start Kr.out.disk).write zz TU S TR.out (by have:=To.2;omega));rw[<- Tj.out] at Ka;have Tk:=(P.out.below Kq).at_ 5 (v:= .slice (adr a5) k c5) rfl;rw[Kp] at Tk;have s2D:wr.drew.cell? ⟨b2,o2+q',none⟩=some (.int .i64 (zz:Int)):=s2;have x7:=Kr.out.box.at_ 7 (v:= gd) rfl;rw[Ko];have Ph:=zI Ko;have Pi:=zI Kp;clear Tf Tg Th Z TT Kq Ko Kp s2;go_upto_region 15 with fail
    go_region_with (first
     | (go_at_call 28
        refine Ka.out.mono ?_;rintro e w8 ⟨rfl,Tm⟩))
    all_goals
     have Ks:=Kr.out.disked Tm;have TV:=zI Ks.1;have TW:=zI ((HT.out.trans (SvT.of_below FB5 FDr gx (qaa wr.heap.size wr).drew)).trans Ks.2);clear Ks Tm s1 s2D x7 Tk;go_wp2_with fail
     go_roundw
     case rel=>exact⟨q'+1,_,by omega,by go_num,by rw[show q+2*(q'+1)=q+2*q'+2 from by omega];exact TV.out,TW.out⟩
     case measure=>simp[intOf];omega
  · have TX:q'=k:=by omega
    have TY:=zI (show O.take q'=O from qap (by rw[Ha.out];omega));have TZ:=zI (show(sgL id1 t s l).take q'=sgL id1 t s l from qap (by rw[Hn.out];omega));have T6:=zI (show SvS wr FB5 FDr gx N C B D R gd gen id1 mp bk (q+2*k) nP lg bad pf (Led.insAll us O) (some (Led.insAll (a.getD []) O)) b m (putB f O (sgL id1 t s l)) from by have:=HV.out;rw[TY.out,TZ.out,TX] at this;exact this);have T:=Dj.symm (F:=fun x=>x=gx\/FB5 x\/FD x) (G:=Apart FB5 FD gx w7) (fun x L h2=>Apart.not x h2 L);have u:=zI (TK.out.chg HT.out.chg (T gr K8.out));have T7:=zI (TL.out.chg HT.out.chg (fun a e=>T _ (K7.out a e)));have v0:=P.out.at_ 0 rfl;have r0:=u.out.at_ 0 rfl;have f0:=u.out.free 0;have v1:=P.out.at_ 1 rfl;have r1:=u.out.at_ 1 rfl;have f1:=u.out.free 1;have v2:=P.out.at_ 2 rfl;have r2:=u.out.at_ 2 rfl;have f2:=u.out.free 2;have v3:=P.out.at_ 3 rfl;have r3:=u.out.at_ 3 rfl;have f3:=u.out.free 3;have v4:=P.out.at_ 4 rfl;have r4:=u.out.at_ 4 rfl;have f4:=u.out.free 4;have v5:=P.out.at_ 5 rfl;have r5:=u.out.at_ 5 rfl;have f5:=u.out.free 5;have v6:=P.out.at_ 6 rfl;have r6:=u.out.at_ 6 rfl;have f6:=u.out.free 6;clear T;go_wp2_with fail
    obtain⟨w9,Kt⟩:=exE (putC wr gr 0 [.int .u64 (id1:Int),(t:Int),(s:Int),(0:Int),(k:Int),.slice (adr a5) k c5,.slice (adr Bx') len d]);have M:=Jaw u.out [.int .u64 (id1:Int),(t:Int),(s:Int),(0:Int),(k:Int),.slice (adr a5) k c5,.slice (adr Bx') len d] rfl;have J:=Jcb (g:=gr) [.int .u64 (id1:Int),(t:Int),(s:Int),(0:Int),(k:Int),.slice (adr a5) k c5,.slice (adr Bx') len d] wr 0;rw[<- Kt] at M J;simp only[putC,qa7,Nat.reduceAdd] at Kt;rw[<- Kt];clear v0 r0 f0 v1 r1 f1 v2 r2 f2 v3 r3 f3 v4 r4 f4 v5 r5 f5 v6 r6 f6;have q0:=M.at_ 0 rfl;have q1:=M.at_ 1 rfl;have q2:=M.at_ 2 rfl;have q3:=M.at_ 3 rfl;have q4:=M.at_ 4 rfl;have q5:=M.at_ 5 rfl;have q6:=M.at_ 6 rfl;have Ku:=J.size;have o:=HT.out.apart K8.out;have Po:=Kd.out;have Hy:=TO.out.trans HT.out;have T8:=zI (T6.out.far J (fun x e=>by rw[e];exact⟨o.1,o.2.1,o.2.2.1,KL.out.2.2.2⟩));have T9:=zI (show SvT w w9 FB FD FB5 FDr gx from⟨Hy.chg.trans J (fun x e=> .inr (by rw[e];omega)),fun x h=>Jcj (Hy.fb x h) Ku,fun x h=>Jcj (Hy.fd x h) Ku,Hy.tl.trans (Tl.of_chg J (fun e=>o.2.2.1 e.symm))⟩);have up:∀x,Apart FB5 FDr gx wr x ->Apart FB5 FDr gx w9 x:=fun x h=>⟨h.1,h.2.1,h.2.2.1,qar h.2.2.2 Ku⟩;have Pa:=Jax Kn.out J (fun b hb e=>u.out.not_row Kn.out (by decide) (by rw[hb,e]));obtain⟨_,_,e9,Pb⟩:=Jao Pa;cases e9
    have Pc:=T7.out.chg J (fun a e=>by have:=(Ht.out a e).2.2.2;show a.block≠gr;omega)
    have Pd:=zI (show PmAt w9 (Apart FB5 FDr gx w9) ⟨⟨id1,t,s,O⟩,l,a5,c5,Bx',d⟩ from by
     refine⟨?_,?_,fun a e=>up _ (HT.out.apart (Ta.out a e)),fun a e=>up _ (HT.out.apart (K7.out a e))⟩
     · refine⟨Pb,rfl,by have:=Ha.out;unfold maxLen;show O.length<=_;omega,fun z hz=> ?_⟩
       have L:=Km.out.fresh z hz;have h2:=Kv.out;exact Jcd (by omega)
     · show Rcs w9 (adr Bx') l.length l
       rw[<- Hc.out];exact Pc)
    have Pe:=zI (show(Pm.raw ⟨⟨id1,t,s,O⟩,l,a5,c5,Bx',d⟩).val= .agg #[.int .u64 (id1:Int),(t:Int),(s:Int),(0:Int),(k:Int),.slice (adr a5) k c5,.slice (adr Bx') len d] from by
     unfold Pm.raw PRaw.val;dsimp only;rw[Ha.out,<- Hc.out])
    rw[<- HO.out];refine qa6 (v:= .tuple #[.agg #[.int .u64 (id1:Int),(t:Int),(s:Int),(0:Int),(k:Int),.slice (adr a5) k c5,.slice (adr Bx') len d],(0:Int)]) (by simp[results,Tryz.results246,go_sem,q0,q1,q2,q3,q4,q5,q6]) rfl ⟨FB5,FDr,a5,c5,by rw[Pe.out],T8.out,T9.out,Pd.out,fun a e=>⟨(Tb.out a e).1,by have L:=(Tb.out a e).2;have h2:=HT.out.chg.size;omega⟩,Km.out⟩
structure SvV where
 id:Nat
 us:List Int
 f:Int ->Option ByteArray
 es:List En
def SvV.bl (D N:Nat) (v:SvV) (x:Wv):List Int:=Jl3 D N v.us (sgN x.2.2.length)
def SvV.en (D N:Nat) (v:SvV) (x:Wv):En:=⟨v.id+1,x.1,x.2.1,v.bl D N x⟩
def SvV.put (D N:Nat) (v:SvV) (x:Wv):SvV:=
 ⟨v.id+1,Led.insAll v.us (v.bl D N x),putB v.f (v.bl D N x) (sgL (v.id+1) x.1 x.2.1 x.2.2),v.es++[v.en D N x]⟩
def needW (xs:List Wv):Nat:=(xs.map fun x=>sgN x.2.2.length).sum
theorem Jm5(xs:List Wv)(x:Wv):needW (xs++[x])=needW xs+sgN x.2.2.length:=by simp[needW]
theorem Jwx(xs:List Wv)(k:Nat):needW (xs.take k)<=needW xs:=by
 induction xs generalizing k with
 | nil=>simp[needW]
 | cons a r ih=>
   cases k with
   | zero=>simp[needW]
   | succ k=>
     have:=ih k;simp only[needW,List.take_succ_cons,qbz,qda] at*;omega
theorem Jgs:∀ (zs:List Int) (ss:List ByteArray) (f:Int ->Option ByteArray) (z:Int),z∉zs ->putB f zs ss z=f z
 | [],_,_,_,_=>rfl
 | _::_,[],_,_,_=>rfl
 | a::zs,s::ss,f,z,h=>by
   show putB (setS f a s) zs ss z=f z;rw[Jgs zs ss _ z (fun h1=>h (qc9 _ h1))];unfold setS;rw[qay (fun e=>h (by rw[e];exact List.mem_cons_self))]
theorem Ju5:∀ (zs:List Int) (ss:List ByteArray) (f:Int ->Option ByteArray),zs.Nodup ->zs.length=ss.length ->∀j (hj:j<zs.length),putB f zs ss zs[j]=ss[j]?
 | [],_,_,_,_,_,hj=>by simp at hj
 | _::_,[],_,_,h,_,_=>by simp at h
 | a ::zs,s::ss,f,hn,hl,j,hj=>by
   have z:=List.nodup_cons.1 hn;cases j with
   | zero=>
     show putB (setS f a s) zs ss a=_;rw[Jgs zs ss _ a z.1];simp[setS]
   | succ j=>
     show putB (setS f a s) zs ss (zs[j]'(by simpa using hj))=_;rw[Ju5 zs ss _ z.2 (by simpa using hl) j (by simpa using hj)]
     simp
def Kaq (f:Int ->Option ByteArray) (e:En) (l:List Rc):Prop:=∀j (hj:j<e.bl.length),f e.bl[j]=(sgL e.id e.tier e.shard l)[j]?
structure SvG (D N:Nat) (v0:SvV) (xs:List Wv) (v:SvV):Prop where
 len:v.us.length<=v0.us.length+needW xs
 id:v.id=v0.id+xs.length
 es:v.es.length=xs.length
 ids:∀e∈v.es,1<=e.id/\e.id<=v.id
 sub:∀z∈v.es.flatMap En.bl,z∈v.us
 us:∀z∈v0.us,z∈v.us
 nodup:(v.es.flatMap En.bl).Nodup
 bl:∀e∈v.es,∀z∈e.bl,(D:Int)<=z/\z<(N:Int)
 at_:∀j (h1:j<v.es.length) (h2:j<xs.length),(v.es[j]).tier=xs[j].1/\(v.es[j]).shard=xs[j].2.1/\(v.es[j]).bl.length=sgN xs[j].2.2.length/\Kaq v.f v.es[j] xs[j].2.2
 low:∀z,z<(D:Int) ->v.f z=v0.f z
theorem SvG.start(D N:Nat)(v:SvV)(h:v.es=[]):SvG D N v [] v:=
 ⟨by simp[needW],by simp,by rw[h];rfl,by rw[h];simp,by rw[h];simp,fun z h=>h,by rw[h];simp,by rw[h];simp,fun j h1 h2=>by simp at h2,fun _ _=>rfl⟩
theorem SvG.put{D N:Nat}{v0 v:SvV}{xs:List Wv}(h:SvG D N v0 xs v)(x:Wv)(hD:D<=N)(hO:Led.DrawLaw (D:Int) ((N - D:Nat):Int) v.us (sgN x.2.2.length:Int) (v.bl D N x)):SvG D N v0 (xs++[x]) (v.put D N x):=by
 have o:(v.bl D N x).length=sgN x.2.2.length:=by have:=hO.len;omega
 have s:∀e∈v.es,∀z∈e.bl,z∉v.bl D N x:=fun e u z w hh=>(hO.fresh z hh).2.2 (h.sub z (qcs.2 ⟨e,u,w⟩));refine⟨?_,?_,?_,?_,?_,?_,?_,?_,?_,?_⟩
 · show(Led.insAll v.us (v.bl D N x)).length<=_
   have n:=Led.len_insAll_le (v.bl D N x) v.us;have k:=h.len;rw[Jm5];omega
 · show v.id+1=_
   rw[h.id,qad];rfl
 · show(v.es++[_]).length=_
   rw[qad,qad,h.es];rfl
 · intro e u
   rcases qbe.1 (show e∈v.es++[v.en D N x] from u) with u | u
   · have:=h.ids e u
     exact⟨this.1,by show e.id<=v.id+1;omega⟩
   · rw[qa1.1 u]
     exact⟨by show 1<=v.id+1;omega,qab _⟩
 · intro z w
   have w:z∈(v.es++[v.en D N x]).flatMap En.bl:=w;rw[qav] at w;show z∈Led.insAll v.us (v.bl D N x);rw[Led.mem_insAll];rcases qbe.1 w with w | w
   · exact .inl (h.sub z w)
   · exact .inr (by simpa[SvV.en] using w)
 · intro z w
   show z∈Led.insAll v.us (v.bl D N x);rw[Led.mem_insAll];exact .inl (h.us z w)
 · show((v.es++[v.en D N x]).flatMap En.bl).Nodup
   rw[qav];refine qdm.2 ⟨h.nodup,by simpa[SvV.en] using hO.nodup,fun z w y r e=> ?_⟩;have r:y∈v.bl D N x:=by simpa[SvV.en] using r
   exact(hO.fresh y r).2.2 (by rw[<- e];exact h.sub z w)
 · intro e u z w
   rcases qbe.1 (show e∈v.es++[v.en D N x] from u) with u | u
   · exact h.bl e u z w
   · rw[qa1.1 u] at w
     have:=hO.fresh z w;omega
 · intro j n k
   have i:j<v.es.length+1:=by
    have g:(v.put D N x).es.length=v.es.length+1:=by show(v.es++[_]).length=_;rw[qad];rfl
    omega
   by_cases t:j<v.es.length
   · have m:j<xs.length:=by rw[<- h.es];exact t
     obtain⟨a1,a2,a3,a4⟩:=h.at_ j t m;have e1:(v.put D N x).es[j]=v.es[j]:=qdn (bs:=[v.en D N x]) t;have e2:(xs++[x])[j]=xs[j]:=qdn m;rw[e1,e2];refine⟨a1,a2,a3,fun q hq=> ?_⟩;show putB v.f (v.bl D N x) _ _=_;rw[Jgs _ _ _ _ (s _ (qan t) _ (qan hq))];exact a4 q hq
   · have p:j=v.es.length:=by omega
     subst p;have e0:∀ (l:List En) (y:En) (hh:l.length<(l++[y]).length),(l++[y])[l.length]=y:=fun l y hh=>by simp
     have e1:(v.put D N x).es[v.es.length]=v.en D N x:=e0 v.es (v.en D N x) n;have e2:(xs++[x])[v.es.length]=x:=by rw[List.getElem_append_right (by rw[h.es];exact qab _)];simp[h.es]
     rw[e1,e2];refine⟨rfl,rfl,o,fun q hq=> ?_⟩;exact Ju5 _ _ v.f hO.nodup (by rw[o,Jcz]) q hq
 · intro z w
   show putB v.f (v.bl D N x) _ z=_;rw[Jgs _ _ _ _ (fun hh=>by have:=hO.fresh z hh;omega)];exact h.low z w
structure WvOk (xs:List Wv):Prop where
 n:xs.length<=40
 fit:∀x∈xs,x.1<5/\x.2.1<8/\1<=x.2.2.length/\x.2.2.length<=10000/\(∀r∈x.2.2,r.Fine)/\x.2.2.Pairwise Rc.lt
 place:(xs.map fun x=>plit (x.1:Int) (x.2.1:Int)).Nodup
