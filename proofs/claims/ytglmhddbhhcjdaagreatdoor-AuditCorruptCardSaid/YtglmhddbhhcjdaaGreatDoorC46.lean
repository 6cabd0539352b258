/- Laws that the walk of the last text wants. -/
import Derived.Test.YtglmhddbhhcjdaaGreatDoorC43
set_option maxRecDepth 100000
set_option linter.unusedSimpArgs false
set_option maxHeartbeats 4000000
namespace Go.Proofs.YtglmhddbhhcjdaaGreatDoor
open Go.RowKit
theorem Jxq:(Tryz.prog.info? 29).map (fun i=>(i.zero,i.size,i.bytes))=some (some (.int .i64 0),1,8):=by kernel_rfl
theorem Jxr:(Tryz.prog.info? 4).map (fun i=>(i.zero,i.size,i.bytes))=some (some (.bool false),1,1):=by kernel_rfl
theorem J2m(W:World):(Instr.makeSlice 118 (1:Int) (1:Int)).run Tryz.prog W= .ok (.slice (some ⟨W.heap.size,0,none⟩) 1 1) (W.alloc (.cells #[(0:Int)] 29)):=by
 obtain⟨i0,w,z,y,x⟩:=qb2 Jxq;rw[run_make W 118 29 i0 (0:Int) Tryz.underlying118 w z .i64 .i64 1 1 (by omega) (by omega) (by rw[x];omega) (by omega)]
 have e:madeCells (Value.int .i64 0).cells ((1:Int).toNat*i0.size)=#[.int .i64 0]:=by
  rw[y];apply Array.ext';rw[show(Value.int .i64 0).cells=#[.int .i64 0] from rfl,toList_madeCells_one]
  simp
 rw[e];rfl
theorem Jxs(W:World):(Instr.makeSlice 187 (1:Int) (1:Int)).run Tryz.prog W= .ok (.slice (some ⟨W.heap.size,0,none⟩) 1 1) (W.alloc (.cells #[false] 4)):=by
 obtain⟨i0,w,z,y,x⟩:=qb2 Jxr;rw[run_make W 187 4 i0 false Tryz.underlying187 w z .i64 .i64 1 1 (by omega) (by omega) (by rw[x];omega) (by omega)]
 have e:madeCells (Value.bool false).cells ((1:Int).toNat*i0.size)=#[.bool false]:=by
  rw[y];apply Array.ext';rw[show(Value.bool false).cells=#[.bool false] from rfl,toList_madeCells_one]
  simp
 rw[e];rfl
structure GrS (w wr:World) (F:Nat ->Prop) (ge gd N C B D R gen q:Nat) (ps:List Pm) (t t0:Tv) (rs:List (List UInt8)) (l:List Smp) (gv gu:Nat) (r:Int):Prop where
 ex:∃G f' t' rs',Jat wr G ge gd N C B D R gen q ps f' t' rs' t0/\(∀x,G x ->grow F w wr x)/\ ¬ G gv/\ ¬ G gu/\Chg F w wr/\Joy R t l r t' rs rs'
 bv:Bx wr gv 29 #[(r:Int)]
 bu:Bx wr gu 4 #[(decide (r=0))]
section
variable {F:Nat ->Prop} {ge gd N C B D R gen q:Nat} {ps:List Pm} {f:Int ->Option ByteArray} {t t0:Tv} {rs:List (List UInt8)}
theorem J2n(l:List Smp)(A:Option Addr)(n c b:Nat)(w:World)(h:Jat w F ge gd N C B D R gen q ps f t rs t0)(hs:w.cell? ⟨b,0,none⟩=some (.slice A n c))(hl:Smps w A n l)(hA:1<=l.length ->AIn (fun b=> ¬ F b) A)(hfew:∀i,i<t.tabs.length ->(t.tab i).length<=9000)(hfit:(layAll gen 0 rs).length+2<=16)(hq:q<=700000):
  Cs 51 #[ge,.slice (some ⟨b,0,none⟩) 1 1] w fun e w'=>∃v r f' t' rs',e= .returned (.slice (some ⟨v,0,none⟩) 1 1)/\w'.cell? ⟨v,0,none⟩=some (.int .i64 r)/\Jat w' (grow F w w') ge gd N C B D R gen (q+4) ps f' t' rs' t0/\Chg F w w'/\Joy R t l r t' rs rs':=by
 have Km:=J2m;have Kn:=Jxs;obtain⟨gv,g⟩:=exE w.heap.size;obtain⟨gu,a⟩:=exE (gv+1);obtain⟨w3,Z⟩:=exE ((w.alloc (.cells #[(0:Int)] 29)).alloc (.cells #[false] 4));have Y:Below w.heap.size w w3:=by rw[Z];exact((qaa _ _).alloc (qab _) _).alloc (by simp) _
 have Hi:Bx w3 gv 29 #[(0:Int)]:=by rw[Z,g];exact(Bx.new w _ _).alloc _
 have Hj:Bx w3 gu 4 #[false]:=by
  rw[Z,a,g];have:=Bx.new (w.alloc (.cells #[(0:Int)] 29)) 4 #[false]
  rwa [show(w.alloc (.cells #[(0:Int)] 29)).heap.size=w.heap.size+1 from by simp] at this
 have Ha:=h.below Y;have H9:=zI (Jro w3 Ha);have Ka:=zI (J83 l A n c w3 Ha (hl.below Y) hA hfew hfit hq);have V:b<w.heap.size:=by have:=qba w _ hs;exact this
 have Kb:=zI ((Y.cell (p:=⟨b,0,none⟩) V).trans hs);have J:=zI h.ins;have Kc:=zI h.size;have Kd:=zI h.low;have Hk:=zI Y;have Hl:=zI Hi;have Hm:=zI Hj;have Ke:=zI Z;have Hn:=zI g;have Ho:=zI a;have Ko:=zI V;clear h hs hl hA hfew hfit Y Hi Hj Ha Z g a V;go_enter Tryz.func51,Tryz.ntmps51;go_upto_region 4 with fail
 rw[<- Ke.out,<- Hn.out,<- Ho.out];go_wp2_with fail
 go_loopw [7,8,20] (fun s7 s8 j wr=>(s7= .bool false/\s8= .bool false/\j= .int .i64 0/\w3=wr)\/(s7= .bool false/\j= .int .i64 1/\∃r,s8= .bool (decide (r=0))/\GrS w wr F ge gd N C B D R gen (q+4) ps t t0 rs l gv gu r)) (fun _ _ j _=>1 - (intOf j).toNat)
 case atStart=>exact .inl ⟨rfl,rfl,rfl,rfl⟩
 case round=>
  rcases hrel with⟨rfl,rfl,rfl,U⟩ | ⟨rfl,rfl,r,rfl,hG⟩
  · subst U
    have x0:=Kb.out;go_wp2_with fail
    refine H9.out.mono ?_;rintro e w4 ⟨rfl,U⟩;subst U;go_wp2_with fail
    refine Ka.out.mono ?_;rintro e w4 ⟨r,f',t',rs',rfl,Hp,T,u⟩;have Kp:=Hk.out.size;have Kk:=Hl.out.lt;have Kl:=Hm.out.lt;have g:=Hn.out;have a:=Ho.out;have Hb: ¬ F gv:=fun K=>by have:=J.out gv K;omega
    have k: ¬ F gu:=fun K=>by have:=J.out gu K;omega
    have S:=Hl.out.chg T Hb;have Hq:=Hm.out.chg T k;have Hc:=S.set 0 (r:Int);have I:Chg (fun x=>x=gv) w4 (w4.setCell ⟨gv,0,none⟩ (r:Int)):=Chg.set _ _ _ rfl;have P:=Hq.chg I (show ¬ gu=gv from by omega);have Hr:=P.set 0 (decide (r=0));have H:Chg (fun x=>x=gu) (w4.setCell ⟨gv,0,none⟩ (r:Int)) ((w4.setCell ⟨gv,0,none⟩ (r:Int)).setCell ⟨gu,0,none⟩ (decide (r=0))):=Chg.set _ _ _ rfl;have Hs:=Hc.chg H (show ¬ gv=gu from by omega)
    have s:∀x,x=gv\/x=gu -> ¬ grow F w3 w4 x:=fun x z K=>by
     rcases K with K | K
     · rcases z with rfl | rfl
       · exact Hb K
       · exact k K
     · have:=K.1;omega
    have Ht:=Hp.far I (fun x z=>s x (.inl z));have Hu:=Ht.far H (fun x z=>s x (.inr z));have o:Chg F w ((w4.setCell ⟨gv,0,none⟩ (r:Int)).setCell ⟨gu,0,none⟩ (decide (r=0))):=(((Chg.of_below Hk.out).trans T (fun _ h=> .inl h)).trans I (fun x h=> .inr (by omega))).trans H (fun x h=> .inr (by omega));have Kq:=T.size
    have Hv:=zI (show GrS w ((w4.setCell ⟨gv,0,none⟩ (r:Int)).setCell ⟨gu,0,none⟩ (decide (r=0))) F ge gd N C B D R gen (q+4) ps t t0 rs l gv gu r from
     ⟨⟨_,f',t',rs',Hu,fun x z=>z.elim .inl (fun y=> .inr ⟨by have:=y.1;omega,by have:=y.2;simp;omega⟩),s gv (.inl rfl),s gu (.inr rfl),o,u⟩,Hs,Hr⟩)
    have y0:=S.at_ 0 (v:= (0:Int)) rfl;have f0:=S.free 0;have z0:=Hc.at_ 0 (v:= (r:Int)) rfl;have u0:=P.at_ 0 (v:= false) rfl;have g0:=P.free 0;have Kr:=S.lt;have Ks:=P.lt;clear Hp T u S Hq Hc I P Hr H Hs s Ht Hu o Hb k g a;by_cases hr:r=0
    · subst hr
      go_wp2_with fail
      go_roundw
      case rel=>exact .inr ⟨rfl,rfl,0,rfl,Hv.out⟩
      case measure=>simp[intOf]
    · have d1:(r==0)=false:=by rw[qat];exact hr
      have d2:decide (r=0)=false:=qae hr;go_wp2_with fail
      go_roundw
      case rel=>exact .inr ⟨rfl,rfl,r,by rw[d2],by have:=Hv.out;rw[d2] at this;exact this⟩
      case measure=>simp[intOf]
  · obtain⟨⟨G,f',t',rs',hE,m,s,k,o,u⟩,d,O⟩:=hG
    have v0:=d.at_ 0 (v:= (r:Int)) rfl;have u0:=O.at_ 0 (v:= (decide (r=0))) rfl;obtain⟨wo,Hd⟩:=exE wr;rw[<- Hd] at hE m o d O v0 u0 ⊢
    have E:=zI (show ∀ (W:World) x,grow F w W x ->gB<=x from fun W x z=>by
     rcases z with z | z
     · exact Kd.out x z
     · have:=Kc.out;have h1:=z.1;omega)
    by_cases hr:r=0
    · subst hr
      have Hw:=zI (Jro wo hE);have Kf:=zI (Jrn wo hE (by omega));have He:=zI d;have Kg:=zI O;have Kh:=zI s;have Ki:=zI k;have Hx:=zI m;have M:=zI o;have Hf:=zI u;clear hE m s k o u d O Hd v0 u0;go_wp2_with fail
      refine Hw.out.mono ?_;rintro e w5 ⟨rfl,U⟩;subst U;go_wp2_with fail
      refine Kf.out.mono ?_;rintro e w7 ⟨rfl,Hg,L⟩;have Hy:=L.size
      have Hh:=zI (Hg.mono (G:=grow F w w7) (fun x z=>by
       rcases z with z | z
       · exact Jcj (Hx.out x z) Hy
       · exact .inr (Jc5 z M.out.size)) (E.out w7) (fun x z=>by
       rcases z with z | z
       · have:=J.out x z;have:=M.out.size;omega
       · exact z.2))
      have Kj:=zI (M.out.trans L (fun x z=>(Hx.out x z).imp (fun y=>y) (fun y=>y.1)));have Hz:=zI (Jro w7 Hg);have H0:=zI (He.out.chg L Kh.out);have hJ:=Kg.out.chg L Ki.out;have u0:=hJ.at_ 0 (v:= true) rfl;clear Hg L hJ Hy;go_wp2_with fail
      go_loopw [68] (fun j wr=>(j= .int .i64 0\/j= .int .i64 1)/\w7=wr) (fun j _=>1 - (intOf j).toNat)
      case atStart=>exact⟨.inl rfl,rfl⟩
      case round=>
       obtain⟨hj,U⟩:=hrel;subst U;rcases hj with rfl | rfl
       · go_wp2_with fail
         refine Hz.out.mono ?_;rintro e w8 ⟨rfl,U⟩;subst U;go_wp2_with fail
         go_roundw
         case rel=>exact⟨.inr rfl,trivial⟩
         case measure=>simp[intOf]
       · go_wp2_with fail
         go_ret;exact⟨gv,0,f',t',rs',rfl,H0.out.at_ 0 rfl,Hh.out,Kj.out,Hf.out⟩
    · have d1:(r==0)=false:=by rw[qat];exact hr
      have d2:decide (r=0)=false:=qae hr
      have Hh:=zI (hE.mono (G:=grow F w wo) m (E.out wo) (fun x z=>by
       rcases z with z | z
       · have:=J.out x z;have:=o.size;omega
       · exact z.2))
      have He:=zI d;have M:=zI o;have Hf:=zI u;rw[d2] at u0;clear hE m s k o u d O Hd v0;go_wp2_with fail
      go_loopw [68] (fun j wr=>(j= .int .i64 0\/j= .int .i64 1)/\wo=wr) (fun j _=>1 - (intOf j).toNat)
      case atStart=>exact⟨.inl rfl,rfl⟩
      case round=>
       obtain⟨hj,U⟩:=hrel;subst U;rcases hj with rfl | rfl
       · go_wp2_with fail
         go_roundw
         case rel=>exact⟨.inr rfl,trivial⟩
         case measure=>simp[intOf]
       · go_wp2_with fail
         go_ret;exact⟨gv,r,f',t',rs',rfl,He.out.at_ 0 rfl,Hh.out,M.out,Hf.out⟩
theorem J9a(l:List Smp)(A:Option Addr)(n c:Nat)(w:World)(h:Jat w F ge gd N C B D R gen q ps f t rs t0)(hl:Smps w A n l)(hA:1<=l.length ->AIn (fun b=> ¬ F b) A)(hfew:∀i,i<t.tabs.length ->(t.tab i).length<=9000)(hfit:(layAll gen 0 rs).length+2<=16)(hq:q<=700000):
  Cs 17 #[ge,.slice A n c] w fun e w'=>∃r f' t' rs',e= .returned (r:Int)/\Jat w' (grow F w w') ge gd N C B D R gen (q+4) ps f' t' rs' t0/\Chg F w w'/\Joy R t l r t' rs rs':=by
 have u:=(qaa w.heap.size w).alloc (qab _) (.cells #[.slice A n c] 22);have Z:=zI (J2n l A n c w.heap.size _ (h.below u) ((Bx.new w 22 #[.slice A n c]).at_ 0 rfl) (hl.below u) hA hfew hfit hq);have g:=zI u;have s:=zI h.low;have p:=zI h.size;have o:=zI h.ins;clear h hl hA hfew hfit u;go_enter Tryz.func17,Tryz.ntmps17;go_wp2_with fail
 refine Z.out.mono ?_;rintro e w1 ⟨v,r,f',t',rs',rfl,Y,d,m,y⟩;have a:=g.out.size;have k:=m.size
 have W:=zI (d.mono (G:=grow F w w1) (fun x z=>Jks z a) (fun x z=>by
  rcases z with z | z
  · exact s.out x z
  · have:=p.out;have T:=z.1;omega) (fun x z=>by
  rcases z with z | z
  · have:=o.out x z;omega
  · exact z.2))
 have V:=zI ((Chg.of_below g.out).trans m (fun _ h=> .inl h));have j:=zI y;have U:=qba w1 _ Y;clear d m y a k;go_wp2_with fail
 go_ret;exact⟨r,f',t',rs',rfl,W.out,V.out,j.out⟩
end
structure Jrs (f:Int ->Option ByteArray) (N C B D R gen:Nat) (ps:List Pm) (t0:Tv):Prop where
 ex:∃i now nm ts fl rsg l,Jg6 f N C B D R gen i now nm ts fl (ps.map Pm.e) rsg l t0 []
 hok:Jij D N ps
theorem Jfi.hok{w:World}{FB FD:Nat ->Prop}{gx N C B D R gd gen mp bk q gl:Nat}{v v0:SvV}{ps:List Pm}{t:Tv}(h:Jfi w FB FD gx N C B D R gd gen mp bk q gl v ps t)(hg:t.Good)(hv:SvG D N v0 (Jak t t.tabs.length) v):Jij D N ps:=by
 have u:=hg.wv;have mem:∀p∈ps,p.e∈v.es:=fun p hp=>by rw[<- h.es];exact qcu hp
 have s:(ps.flatMap fun p=>p.e.bl)=v.es.flatMap En.bl:=by rw[<- h.es,qdp]
 have key:∀e∈v.es,∃x∈Jak t t.tabs.length,e.tier=x.1/\e.shard=x.2.1/\e.bl.length=sgN x.2.2.length:=by
  intro e o;obtain⟨j,r,rfl⟩:=qb5 o;have z:j<(Jak t t.tabs.length).length:=by rw[<- hv.es];exact r
  obtain⟨a1,a2,a3,_⟩:=hv.at_ j r z;exact⟨_,qan z,a1,a2,a3⟩
 refine⟨fun p hp=> ?_,fun p hp=> ?_,fun p hp e=> ?_,fun p hp=>hv.bl _ (mem p hp),by rw[s];exact hv.nodup⟩
 · obtain⟨x,y,e1,_,_⟩:=key _ (mem p hp)
   have:=(u.fit x y).1;omega
 · obtain⟨x,y,_,e2,_⟩:=key _ (mem p hp)
   have:=(u.fit x y).2.1;omega
 · obtain⟨x,y,_,_,e3⟩:=key _ (mem p hp)
   have:=(u.fit x y).2.2.1;rw[e] at e3;unfold sgN at e3;simp at e3;omega
section
variable {F:Nat ->Prop} {ge gd N C B D R gen q:Nat} {f:Int ->Option ByteArray} {t t0:Tv} {rs:List (List UInt8)}
theorem Jat.saved_es{w w':World}(h:Jat w F ge gd N C B D R gen q [] f t rs t0){FB' FD':Nat ->Prop}{id mp' bk' q' gl':Nat}{v:SvV}{ps:List Pm}(h3:id<=100*gen)(hv:SvG D N ⟨id,[],f,[]⟩ (Jak t t.tabs.length) v)(hs:Jfi w' FB' FD' ge N C B D R gd (gen+1) mp' bk' q' gl' v ps t)(hg:gen+1<5000):Jrs (savF B N t (gen+1) v) N C B D R (gen+1) ps (t.withFs t.r.all):=by
 refine⟨?_,hs.hok h.good hv⟩;obtain⟨i,now,nm,ts,fl,es,rsg,l,s,o⟩:=h.svd.ex;obtain⟨o0,o1,y,x,u⟩:=s.sup;have z:=J2g u;rw[hs.es];refine⟨_,_,_,_,_,_,_,J17 h.lay h.good h.need hv (by show id<1000000;have:=h.gen1;omega) (by omega) ?_ h.log.next⟩;by_cases p:gen % 2=0
 · rw[p];exact⟨o0,y,z.1⟩
 · rw[show gen % 2=1 from by omega];exact⟨o1,x,z.2⟩
theorem J56(w:World)(h:Jat w F ge gd N C B D R gen q [] f t rs t0)(hG:Glo w)(hg:gen+1<5000)(hq:q<=500000):
  Cs 75 #[ge] w fun e w'=>e= .returned (0:Int)/\∃ps f',Jat w' (grow F w w') ge gd N C B D R (gen+1) (q+10000) ps f' t [] (t.withFs t.r.all)/\Chg F w w'/\Jrs f' N C B D R (gen+1) ps (t.withFs t.r.all):=by
 obtain⟨FB,FD,FT,gs,gl,mp,bk,id,n,m,g,W⟩:=h.ex;have l:=(qaa w.heap.size w).drew;have z:=n.below l;have p:=h.gen1;have d:=h.good.needW;have c:=h.need;have b:=h.lay.bd;have a:=zI (J1m w.drew z.sv h.lay z.st (fun x hx=>(z.ft x hx).1) h.good.want h.good.wv (hG.below l) (fun v s=>s.fits h.lay h.good h.need (by show id<1000000;omega) (by omega)) ⟨h.low ge (m ge (.inl rfl)),fun x hx=>h.low x (m x (hx.elim (fun y=> .inr (.inr (.inl y))) (fun y=> .inr (.inr (.inr (.inl y))))))⟩ (by omega) (by omega) (by show 0+needW _<=_;omega) hq)
 have V:=zI (fun w1 FB' FD' mp' bk' gl' ps v q' (s:SvG D N ⟨id,[],f,[]⟩ (Jak t t.tabs.length) v) (u:q'<=q+10000) (o:Jfi w1 FB' FD' ge N C B D R gd (gen+1) mp' bk' q' gl' v ps t) (k:SvT w.drew w1 FB FD FB' FD' ge) (j:w.drew.heap.size<=mp') (i:w.drew.heap.size<=gl'/\ ¬ FB' gl'/\ ¬ FD' gl')=>
  show Jat w1 (grow F w w1) ge gd N C B D R (gen+1) (q+10000) ps (savF B N t (gen+1) v) t [] (t.withFs t.r.all)/\Chg F w w1/\Jrs (savF B N t (gen+1) v) N C B D R (gen+1) ps (t.withFs t.r.all) from have Y:=h.saved n m g s o ((SvT.of_below FB FD ge l).trans k) j i hg;⟨Y.1.up u,Y.2,h.saved_es g s o hg⟩)
 have x14:=n.bx.at_ 14 (v:= gs) rfl;have y14:=z.bx.at_ 14 (v:= gs) rfl;clear h n m g W l z p d c b hG hg hq;go_enter Tryz.func75,Tryz.ntmps75;go_upto_region 1 with fail
 go_region_with (first
  | (go_at_call 93
     refine a.out.mono ?_;rintro e w1 ⟨FB',FD',mp',bk',gl',ps,v,q',rfl,s,u,o,k,j,i⟩;have Z:=zI (V.out w1 FB' FD' mp' bk' gl' ps v q' s u o k j i);clear s u o k j i)
  | (go_at_call 105
     refine(Jox ge _).mono ?_;rintro e w2 ⟨rfl,U⟩;subst U))
 all_goals
  clear x14 y14;go_wp2_with fail
  go_ret;exact⟨rfl,ps,_,Z.out.1,Z.out.2.1,Z.out.2.2⟩
theorem J57(w:World)(h:Jat w F ge gd N C B D R gen q [] f t rs t0)(hG:Glo w)(hg:gen+1<5000)(hq:q<=500000):
  Cs 25 #[ge] w fun e w'=>e= .returned (0:Int)/\∃ps f',Jat w' (grow F w w') ge gd N C B D R (gen+1) (q+10000) ps f' t [] (t.withFs t.r.all)/\Chg F w w'/\Jrs f' N C B D R (gen+1) ps (t.withFs t.r.all):=by
 have y:=zI (Jro w h);have x:=zI (J56 w h hG hg hq);clear h hG hg hq;go_enter Tryz.func25,Tryz.ntmps25;go_wp2_with fail
 refine y.out.mono ?_;rintro e w0 ⟨rfl,p⟩;subst p;go_wp2_with fail
 refine x.out.mono ?_;rintro e w1 ⟨rfl,ps,f',u,s,z⟩;have o:=zI u;have n:=zI s;have v:=zI z;clear u s z;go_wp2_with fail
 go_ret;exact⟨rfl,ps,f',o.out,n.out,v.out⟩
end
theorem J9b(x:Rc)(l:List Rc):putR x l≠[]:=by
 intro h;cases l with
 | nil=>simp[putR] at h
 | cons y r=>
   unfold putR at h;split at h
   · cases h
   · split at h<;>cases h
theorem J2o{ev:Int}{l:List Rc}{r:Rc}(h:l≠[]\/Jau ev r=true):addR ev l r≠[]:=by
 unfold addR;split
 · exact J9b _ _
 · next hn=>rcases h with h | h;exact h;exact absurd h hn
section
variable {t:Tv}
theorem Ji8(s:Smp):∀n,1<=n ->(t.putTo s n).tab 0=(t.putTo s 1).tab 0
 | 0,h=>by omega
 | 1,_=>rfl
 | n+2,_=>by
   have ih:=Ji8 s (n+1) (by omega);rw[<- ih];show(if t.r.has ((n+1:Nat):Int) s.tm=true then _ else _:Tv).tab 0=_;split
   · exact Tv.setTab_other (by omega)
   · rfl
theorem J9c(hg:t.Good){s:Smp}(hs:t.r.Gets s)(h1:t.r.ev 0=1):(t.put1 s).tab 0≠[]:=by
 have w:=hg.n.1;have v:=hg.ev (i:=0) (by omega);obtain⟨K,_⟩:=hg.ti (i:=0) (by omega);have x:isB t.r.ts.length ((0:Nat):Int)=true:=Jr5 K;have y:=hs.tm
 have est:t.r.start ((0:Nat):Int) s.tm=s.tm:=by
  unfold Rch.start;rw[qa0 ⟨x,y.1⟩];show flrE s.tm (t.r.ev 0)=_;rw[h1];unfold flrE;rw[qay (by omega)];unfold flr;omega
 have z:t.r.has ((0:Nat):Int) s.tm=true:=by
  unfold Rch.has;simp only[qb1,qbc];refine⟨⟨x,y.1⟩,?_⟩;rw[est];unfold Rch.fromI;rw[qa0 x];exact hs.from_
 have u:=(Jvf hg hs (i:=0) (by omega) z).2.1;show(t.putTo s t.tabs.length).tab 0≠[];rw[Ji8 s _ w];show(if t.r.has ((0:Nat):Int) s.tm=true then _ else _:Tv).tab 0≠[];rw[qa0 z,Tv.setTab_same (by rw[Tv.putTo_len];exact w)];exact J2o (.inr u)
theorem J2p(s:Smp)(hn:1<=t.tabs.length)(h:t.tab 0≠[]):(t.put1 s).tab 0≠[]:=by
 show(t.putTo s t.tabs.length).tab 0≠[];rw[Ji8 s _ hn];show(if t.r.has ((0:Nat):Int) s.tm=true then _ else _:Tv).tab 0≠[];split
 · rw[Tv.setTab_same (by rw[Tv.putTo_len];exact hn)]
   exact J2o (.inl h)
 · exact h
end
theorem Jvr:∀ {l:List Smp} {t:Tv},1<=t.tabs.length ->t.tab 0≠[] ->(t.put l).tab 0≠[]
 | [],_,_,h=>h
 | s::l,t,hn,h=>Jvr (l:=l) (t:=t.put1 s) (by show 1<=(t.putTo s _).tabs.length;rw[Tv.putTo_len];exact hn) (J2p s hn h)
theorem Kac{l:List Smp}{t:Tv}(hg:t.Good)(hl:1<=l.length)(hs:∀s∈l,t.r.Gets s)(h1:t.r.ev 0=1):(t.put l).tab 0≠[]:=by
 match l,hl with
 | s::l,_=>exact Jvr (l:=l) (t:=t.put1 s) (by show 1<=(t.putTo s _).tabs.length;rw[Tv.putTo_len];exact hg.n.1) (J9c hg (hs s (by simp)) h1)
section
variable {f:Int ->Option ByteArray} {N C B D R gen:Nat} {ps:List Pm} {t0:Tv}
theorem Jrs.held(h:Jrs f N C B D R gen ps t0)(h0:t0.tab 0≠[]):usOf ps≠[]:=by
 intro v
 have y:ps=[]:=by
  cases ps with
  | nil=>rfl
  | cons p r=>
    exfalso;have x:=h.hok.ne p (by simp);obtain⟨z,u⟩:=List.exists_mem_of_ne_nil _ x;have:=(Jii (p::r) z).2 ⟨p,by simp,u⟩;rw[v] at this;cases this
 obtain⟨i,now,nm,ts,fl,rsg,l,w⟩:=h.ex;subst y;have t:=w.rl;have s:rsg=[]:=List.length_eq_zero_iff.1 t;subst s;have q:=(w.ld [] rfl rfl).2.1;apply h0;rw[q];show(⟨⟨now,nm,ts,fl⟩,List.replicate ts.length []⟩:Tv).tab 0=[];unfold Tv.tab;show(List.replicate ts.length []).getD 0 []=[];cases ts<;>rfl
theorem Jrs.spoilt(h:Jrs f N C B D R gen ps t0){z:Int}(hz:z∈usOf ps){S T H:List UInt8}(hS:Jav f z=strOf S)(hH:H.length=48)(hT:T=H++S.drop 48)(hne:H≠S.take 48):
  ((D:Int)<=z/\z<(N:Int))/\∃i now nm ts fl rsg l,Jg6 f N C B D R gen i now nm ts fl (ps.map Pm.e) rsg l t0 []/\∃e0,e0<(ps.map Pm.e).length/\(∀j (h1:j<(ps.map Pm.e).length) (h2:j<rsg.length),j<e0 ->SegR (setS f z (strOf T)) D N (ps.map Pm.e)[j] rsg[j])/\∀h':e0<(ps.map Pm.e).length,SegX (setS f z (strOf T)) (ps.map Pm.e)[e0]:=by
 obtain⟨p,k,w⟩:=(Jii ps z).1 hz;obtain⟨e0,v,rfl⟩:=qb5 k;obtain⟨p0,s,o⟩:=qb5 w;obtain⟨i,now,nm,ts,fl,rsg,l,t⟩:=h.ex;have x:(ps.map Pm.e).length=ps.length:=qa4 ..;have g:∀j (h1:j<(ps.map Pm.e).length) (h2:j<ps.length),(ps.map Pm.e)[j]=(ps[j]).e:=fun j h1 h2=>qbq _;have hat:=h.hok.at_ v;refine⟨h.hok.bl _ k z w,i,now,nm,ts,fl,rsg,l,t,e0,by rw[x];exact v,fun j h1 h2 hj=> ?_,fun h'=> ?_⟩
 · refine(t.seg j h1 h2).other (fun hz2=> ?_) _
   have n:j<ps.length:=by rw[<- x];exact h1
   rw[g j h1 n] at hz2;refine hat.2 z w ((Jii _ _).2 ⟨ps[j],?_,hz2⟩);rw[List.mem_take_iff_getElem];exact⟨j,by omega,rfl⟩
 · have m:=t.seg e0 h' (by rw[t.rl];exact h')
   have y:=t.fit.hok _ (qan h');have d:=t.fit.hi;have u:=g e0 h' v;have r:p0<((ps.map Pm.e)[e0]).bl.length:=by rw[u];exact s
   have q:((ps.map Pm.e)[e0]).bl[p0]=z:=by
    have:∀ (a b:En) (e:a=b) (ha:p0<a.bl.length) (hb:p0<b.bl.length),a.bl[p0]=b.bl[p0]:=fun a b e ha hb=>by subst e;rfl
    rw[this _ _ u r s,o]
   have:=J2h m ⟨y.id.1,by have:=y.id.2;omega⟩ (by have:=y.tier;omega) (by have:=y.shard;omega) (by rw[u];exact hat.1) r (S:=S) (T:=T) (by rw[q];exact hS) hH hT hne;rw[q] at this;exact this
end
theorem Jti(S:List UInt8)(hS:S.length=256)(j:Nat)(hj:j<48)(v:UInt8)(hv:v≠S[j]'(by omega)):∃H,H.length=48/\S.set j v=H++S.drop 48/\H≠S.take 48:=by
 refine⟨(S.take 48).set j v,by rw[List.length_set,qao];omega,?_,fun h=> ?_⟩
 · conv=>lhs;rw[<- qa8 48 S]
   rw[List.set_append_left _ _ (by rw[qao];omega)]
 · have:=congrArg (fun l=>l[j]?) h
   rw[List.getElem?_set_self (by rw[qao];omega),qcx hj,qah (by omega)] at this;exact hv (qbr this)
