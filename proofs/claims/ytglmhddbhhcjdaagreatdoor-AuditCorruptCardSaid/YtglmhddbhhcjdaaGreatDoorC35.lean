/- Laws that the walk of the last text wants. -/
import Derived.Test.YtglmhddbhhcjdaaGreatDoorC34
set_option maxRecDepth 100000
set_option linter.unusedSimpArgs false
set_option maxHeartbeats 4000000
namespace Go.Proofs.YtglmhddbhhcjdaaGreatDoor
open Go.RowKit
theorem Jq4{ops:Array Oper}{rest:List Oper}{o:Oper}{a:Act}{Q:Exit ->Act ->World ->Prop}{w:World}{base:Nat}{v:Value}{n:Nat}{xs:List Value}(hgd:o.guard=none)(s x:Operand)(ho:o.op= .call {callee:= .builtin .append,args:=#[s,x],argTypes:=#[210,210]})(h:w.ownsRow base 316 7 v n xs)(hs:a.eval s=v)(A:Option Addr)(m c:Nat)(news:List Value)(hx:a.eval x= .slice A m c)(hl:news.length=m*7)(hsl:Sl w A news)(h1:∀u∈news,u.oneCell'=true)(hn:n+m<=1000000)(hb:base<=w.heap.size)(hK:∀A' c' w',w'.ownsRow base 316 7 (.slice A' (n+m) c') (n+m) (xs++news) ->w.grownBy w' v.ownBlock ->((Value.slice A' (n+m) c').ownBlock=v.ownBlock\/(Value.slice A' (n+m) c').ownBlock=some w.heap.size) ->wpList Tryz.prog ops Q rest (a.put o.dst (.slice A' (n+m) c')) w'):wpList Tryz.prog ops Q (o::rest) a w:=by
 obtain⟨i0,q,z,y,t⟩:=qb2 Jku;refine Jap (P:=Tryz.prog) w hgd s x 210 ho base 316 i0 _ 7 88 Tryz.underlying210 q z y t rfl (by decide) v n xs hs h A m c news hx hl hsl h1 (by unfold maxLen;omega) (by omega) hb ?_;intro v' w' r p l;obtain⟨A',c',rfl,_⟩:=Jao r;exact hK A' c' w' r p l
structure SaP (w1 wr:World) (FB FD:Nat ->Prop) (gx:Nat) (E:Option Addr) (k ec:Nat) (ps:List Pm):Prop where
 row:wr.ownsRow w1.heap.size 316 7 (.slice E k ec) k (ps.flatMap Pm.cells)
 out:∀z,(Value.slice E k ec).ownBlock=some z ->Apart FB FD gx wr z
 at_:∀p∈ps,PmAt wr (fun x=>Apart FB FD gx wr x/\(Value.slice E k ec).ownBlock≠some x) p
 len:ps.length=k
section
variable {w1 wr w':World} {FB FD FB' FD':Nat ->Prop} {gx:Nat} {E:Option Addr} {k ec:Nat} {ps:List Pm}
theorem SaP.turn(h:SaP w1 wr FB FD gx E k ec ps)(hT:SvT wr w' FB FD FB' FD' gx):SaP w1 w' FB' FD' gx E k ec ps:=by
 refine⟨Jax h.row hT.chg (fun b hb hf=>Apart.not b (h.out b hb) hf),fun z hz=>hT.apart (h.out z hz),fun p hp=> ?_,h.len⟩;have y:=(h.at_ p hp).chg hT.chg (fun x hx hf=>Apart.not x hx.1 hf);exact y.sub (fun x hx=>⟨hT.apart hx.1,hx.2⟩)
theorem SaP.below(h:SaP w1 wr FB FD gx E k ec ps)(hb:Below wr.heap.size wr w'):SaP w1 w' FB FD gx E k ec ps:=h.turn (SvT.of_below FB FD gx hb)
theorem SaP.put{E':Option Addr}{ec':Nat}(h:SaP w1 wr FB FD gx E k ec ps)(hFB:∀x,FB x ->x<wr.heap.size)(hFD:∀x,FD x ->x<wr.heap.size)(hgx:gx<wr.heap.size)(p:Pm)(hp:PmAt wr (fun x=>Apart FB FD gx wr x/\(Value.slice E k ec).ownBlock≠some x) p)(hg:wr.grownBy w' (Value.slice E k ec).ownBlock)(ho:w'.ownsRow w1.heap.size 316 7 (.slice E' (k+1) ec') (k+1) (ps.flatMap Pm.cells++p.cells))(hb:(Value.slice E' (k+1) ec').ownBlock=(Value.slice E k ec).ownBlock\/(Value.slice E' (k+1) ec').ownBlock=some wr.heap.size):SaP w1 w' FB FD gx E' (k+1) ec' (ps++[p]):=by
 have u:=Chg.of_grown (F:=fun b=>(Value.slice E k ec).ownBlock=some b) hg (fun b e=>e);have up:∀x,Apart FB FD gx wr x ->Apart FB FD gx w' x:=fun x hx=>⟨hx.1,hx.2.1,hx.2.2.1,qar hx.2.2.2 hg.size⟩
 have key:∀y:Pm,PmAt wr (fun x=>Apart FB FD gx wr x/\(Value.slice E k ec).ownBlock≠some x) y ->PmAt w' (fun x=>Apart FB FD gx w' x/\(Value.slice E' (k+1) ec').ownBlock≠some x) y:=fun y hy=>
  (hy.chg u (fun x hx hf=>hx.2 hf)).sub (fun x hx=>⟨up x hx.1,fun e=>by
    rcases hb with hb | hb
    · exact hx.2 (by rw[<- hb];exact e)
    · rw[hb] at e
      cases e
      have:=hx.1.2.2.2;omega⟩)
 refine⟨?_,fun z hz=> ?_,fun q w=> ?_,by rw[qad,h.len];rfl⟩
 · rw[qav];simpa using ho
 · rcases hb with hb | hb
   · exact up z (h.out z (by rw[<- hb];exact hz))
   · have v:=(ho.lt z hz).2
     rw[hb] at hz;cases hz
     exact⟨fun hh=>by have:=hFB _ hh;omega,fun hh=>by have:=hFD _ hh;omega,by omega,v⟩
 · rcases qbe.1 w with w | w
   · exact key q (h.at_ q w)
   · rw[qa1.1 w];exact key p hp
theorem SaP.pms(h:SaP w1 wr FB FD gx E k ec ps):Jgy wr (Apart FB FD gx wr) E k ps:=by
 obtain⟨_,_,e,y⟩:=Jao h.row;cases e
 exact⟨y,h.len,fun p hp=>(h.at_ p hp).sub (fun x hx=>hx.1),fun a e=>by
  rcases h.row.2 with⟨z,_⟩ | ⟨g,cap,cur,z,_⟩
  · injection z with z;rw[z] at e;cases e
  · have w:=h.out a.block (by rw[e];injection z with z;rw[z] at e;cases e;rfl)
    exact w⟩
end
theorem J1b(l:List Wm)(j:Nat)(hj:j<l.length)(q:Nat)(hq:q<7):(l.flatMap Wm.cells)[j*7+q]? =l[j].cells[q]? :=by
 induction l generalizing j with
 | nil=>simp at hj
 | cons r s ih=>
   have z:r.cells.length=7:=rfl;rw[qau];cases j with
   | zero=>
     rw[qcf (by rw[z];omega)]
     simp
   | succ j=>
     rw[qb6 (by rw[z];omega),z,show(j+1)*7+q - 7=j*7+q from by omega,ih j (by simpa using hj)];rfl
theorem J1c(l:List Wm):(l.flatMap Wm.cells).length=l.length*7:=by
 induction l with
 | nil=>rfl
 | cons a r ih=>rw[qau,qad,ih,show a.cells.length=7 from rfl,qa3];omega
theorem J92{w:World}{A:Option Addr}{ws:List Wm}(h:Sl w A (ws.flatMap Wm.cells)){j:Nat}(hj:j<ws.length):∃b off,A=some ⟨b,off,none⟩/\b<w.heap.size/\J0e w b (off+j*7) ws[j].raw:=by
 have y:ws.flatMap Wm.cells≠[]:=by
  intro e;have:=J1c ws;rw[e] at this;simp only[qbo] at this;omega
 obtain⟨b,off,e,x,v⟩:=h.at_ y;refine⟨b,off,e,x,?_⟩
 have X:∀q (hq:q<7),w.cell? ⟨b,off+j*7+q,none⟩=ws[j].cells[q]? :=fun q hq=>by
  have z:ws[j].cells[q]? =some (ws[j].cells[q]'hq):=qah _;rw[z,qcd];exact v (j*7+q) _ (by rw[J1b ws j hj q hq,z])
 exact⟨X 0 (by omega),X 1 (by omega),X 2 (by omega),X 3 (by omega),X 4 (by omega),X 5 (by omega),X 6 (by omega)⟩
theorem SvG.hold{D N:Nat}{v0 v:SvV}{xs:List Wv}{ps:List Pm}(h:SvG D N v0 xs v)(hx:WvOk xs)(hp:ps.map Pm.e=v.es):Jij D N ps:=by
 have r:ps.length=v.es.length:=by rw[<- hp,qa4]
 have key:∀p∈ps,∃j,∃ (x:j<v.es.length) (y:j<xs.length),p.e=v.es[j]:=fun p hm=>by
  have x:p.e∈v.es:=by rw[<- hp];exact qcu hm
  obtain⟨j,s,e⟩:=qb5 x;exact⟨j,s,by rw[<- h.es];exact s,e.symm⟩
 refine⟨fun p hm=> ?_,fun p hm=> ?_,fun p hm e=> ?_,fun p hm z hz=> ?_,?_⟩
 · obtain⟨j,x,y,e⟩:=key p hm
   have w:=h.at_ j x y;have u:=hx.fit _ (qan y);rw[e,w.1];exact u.1
 · obtain⟨j,x,y,e⟩:=key p hm
   have w:=h.at_ j x y;have u:=hx.fit _ (qan y);rw[e,w.2.1];omega
 · obtain⟨j,x,y,e1⟩:=key p hm
   have w:=h.at_ j x y;have u:=hx.fit _ (qan y);have t:=w.2.2.1;rw[<- e1,e] at t;have q:=u.2.2.1;unfold sgN at t;simp only[qbo] at t;omega
 · exact h.bl _ (by rw[<- hp];exact qcu hm) z hz
 · have:=h.nodup
   rw[<- hp,qdp] at this;exact this
theorem J8q{FB FD FT:Nat ->Prop}{gx N C B D R gd gen id mp bk q nP gs room:Nat}{lg:Option Addr}{bad:Int}{us:List Int}{a b m:Option (List Int)}{f:Int ->Option ByteArray}{t:Tv}(w:World)(h:SvS w FB FD gx N C B D R gd gen id mp bk q nP lg bad (fun _ _=>none) us a b m f)(hL:Jd3 N C B D R)(hS:StAt w FT gs room t)(hFT:∀x,FT x ->Apart FB FD gx w x)(hW:t.Want)(hV:WvOk (Jak t t.tabs.length))(hG:Glo w)(hfit:∀v,SvG D N ⟨id,us,f,[]⟩ (Jak t t.tabs.length) v ->Jik (gen+1) v.id t.r.now t.r.nm t.r.ts t.r.all v.es/\(catB (gen+1) v.id t.r.now (Py.printL t.r.nm.toList t.r.ts) t.r.all v.es).length<=C*256)(hlow:gB<=gx/\∀x,FB x\/FD x ->gB<=x)(hid:id<1000000)(hgen:gen<1000000)(hroom:us.length+needW (Jak t t.tabs.length)<=N - D)(hq:q<=500000):
  Cs 162 #[gx,gs] w fun e w'=>∃FB' FD' mp' bk' gl ps v q',e= .returned (0:Int)/\SvG D N ⟨id,us,f,[]⟩ (Jak t t.tabs.length) v/\ps.map Pm.e=v.es/\q'<=q+10000/\
   SvS w' FB' FD' gx N C B D R gd (gen+1) v.id mp' bk' q' ps.length (some ⟨gl,0,none⟩) bad (mapOf ps) (usOf ps) none (Jcf ps) none
    (setS (putN v.f (Jb5 B (gen+1)) (chC (catB (gen+1) v.id t.r.now (Py.printL t.r.nm.toList t.r.ts) t.r.all v.es)) (nbC (catB (gen+1) v.id t.r.now (Py.printL t.r.nm.toList t.r.ts) t.r.all v.es))) (((gen+1) % 2:Nat):Int) (strOf (suB (gen+1) N (catB (gen+1) v.id t.r.now (Py.printL t.r.nm.toList t.r.ts) t.r.all v.es).length)))/\
   Jso w' gl ⟨gd,0,none⟩ 2 16 (gen+1)/\SvT w w' FB FD FB' FD' gx/\w.heap.size<=mp'/\(w.heap.size<=gl/\ ¬ FB' gl/\ ¬ FD' gl):=by
 obtain⟨xs,Hr⟩:=exE (Jak t t.tabs.length);rw[<- Hr] at hV hfit hroom ⊢;have KV:=zI (J0u w hS hW);rw[<- Hr] at KV;have HV:=zI h;have KW:=zI hS;have TQ:=zI hFT;have TR:=zI hG;have TT:=zI hfit;have KX:=zI hroom;have P:=zI hL;have Kq:=zI hV;have P1:=zI Hr;have TU:=zI hgen;have TV:=zI hid;have He:=zI hlow;clear hW hlow h hL hS hFT hV hG hfit hroom Hr hgen hid;go_enter Tryz.func162,Tryz.ntmps162;go_wp2_with fail
 refine KV.out.mono ?_;rintro e w1 ⟨A1,c1,ws,rfl,KY,KZ,Kr,Hs⟩;obtain⟨n,hn⟩:=exE ws.length;have Ks:xs.length=n:=by rw[<- Kr,qa4,hn]
 have Kt:=zI Ks;have HN:=zI hn;have TW:=zI Kr;have TX:=zI (HV.out.below Hs);have Hf:=zI Hs;have K7:=Hs.size;have TY:=zI (show ∀x,FB x ->x<w.heap.size from HV.out.book.ins);have TZ:=zI (show ∀x,FD x ->x<w.heap.size from HV.out.disk.ins);have T6:=HV.out.box.lt;have Ku:=zI (show ∀x,w.heap.size<=x ->x<w1.heap.size ->Apart FB FD gx w1 x from fun x i h2=>⟨fun h=>by have:=TY.out _ h;omega,fun h=>by have:=TZ.out _ h;omega,by omega,h2⟩);have Kv:=zI KY;have T7:=zI KZ;have PX:n<=40:=by rw[<- Ks];exact Kq.out.n
 rw[<- hn];clear KY KZ Kr Hs hn Ks K7 T6;go_wp2_with fail
 go_loopw [5,18] (fun o j wr=>∃ (k:Nat) (FB' FD':Nat ->Prop) (a':Option (List Int)) (E:Option Addr) (ec:Nat) (ps:List Pm) (v:SvV),k<=n/\j= .int .i64 (k:Int)/\o= .slice E k ec/\SvS wr FB' FD' gx N C B D R gd gen v.id mp bk (q+2*needW (xs.take k)) nP lg bad (fun _ _=>none) v.us a' b m v.f/\SvT w1 wr FB FD FB' FD' gx/\SvG D N ⟨id,us,f,[]⟩ (xs.take k) v/\ps.map Pm.e=v.es/\SaP w1 wr FB' FD' gx E k ec ps) (fun _ j _=>n - (intOf j).toNat)
 case atStart=>exact⟨0,FB,FD,a,none,0,[],⟨id,us,f,[]⟩,qaq _,rfl,rfl,by simpa[needW] using TX.out,SvT.refl _ _ _ _,SvG.start D N _ rfl,rfl,⟨qaz _ _ _ _,fun z hz=>by simp[Value.ownBlock] at hz,fun p hp=>by simp at hp,rfl⟩⟩
 case round=>
  obtain⟨k,FB',FD',a',E,ec,ps,v,hk,rfl,rfl,hV,hT,hG,G,hP⟩:=hrel;by_cases K8:k<n
  · have K:k<ws.length:=by rw[<- HN.out];exact K8
    have K9:=Jax Kv.out hT.chg (fun b hb hf=>Apart.not b (Ku.out b (Kv.out.lt b hb).1 (Kv.out.lt b hb).2) hf);obtain⟨A2,c2,e2,Ta⟩:=Jao K9;obtain⟨b2,o2,Tb,P7,V⟩:=J92 Ta K;have hJ:=zI (T7.out _ (qan K));have Tc:k<xs.length:=by rw[Kt.out];exact K8
    have Kw:=zI (show xs[k]=(ws[k]).v from by
     have:(ws.map Wm.v)[k]'(by rw[qa4];exact K)=(ws[k]).v:=qbq _;rw[<- this];congr 1;exact TW.out.symm)
    have Hg:=zI (Kq.out.fit _ (qan Tc));have Hh:=zI (show xs.take (k+1)=xs.take k++[xs[k]] from qam Tc);have T8:=zI (Jwx xs (k+1));generalize ws[k]'K=x at*;rw[Kw.out] at Hg Hh;have Ht:=zI (Jm5 (xs.take k) x.v);rw[<- Hh.out] at Ht;obtain⟨xt,xsh,xl,xB,xd⟩:=x;unfold Wm.v at Hg Hh Ht Kw;dsimp only at Hg Hh Ht Kw hJ;obtain⟨len,Hi⟩:=exE xl.length;obtain⟨sn,Kx⟩:=exE (sgN xl.length);have p0:wr.cell? ⟨b2,o2+k*7,none⟩=some (.int .u64 0):=V.c0;have p1:wr.cell? ⟨b2,o2+k*7+1,none⟩=some (.int .i64 (xt:Int)):=V.c1;have p2:wr.cell? ⟨b2,o2+k*7+2,none⟩=some (.int .i64 (xsh:Int)):=V.c2;have p3:wr.cell? ⟨b2,o2+k*7+3,none⟩=some (.int .i64 0):=V.c3;have p4:wr.cell? ⟨b2,o2+k*7+4,none⟩=some (.int .i64 (sn:Int)):=by rw[Kx];exact V.c4
    have p5:wr.cell? ⟨b2,o2+k*7+5,none⟩=some (.slice none 0 0):=V.c5;have p6:wr.cell? ⟨b2,o2+k*7+6,none⟩=some (.slice (adr xB) len xd):=by rw[Hi];exact V.c6
    have e3:A1=some ⟨b2,o2,none⟩:=by rw[<- Tb];cases e2;rfl
    subst e3;obtain⟨gp,Ky⟩:=exE wr.heap.size;obtain⟨wb,Hu⟩:=exE (wr.alloc (.cells #[.int .u64 0,(xt:Int),(xsh:Int),(0:Int),(sn:Int),(),.slice (adr xB) len xd] 316));have O:=Bx.new wr 316 #[.int .u64 0,(xt:Int),(xsh:Int),(0:Int),(sn:Int),(),.slice (adr xB) len xd];rw[<- Hu,<- Ky] at O;have Hv:=(qaa wr.heap.size wr).alloc (qab _) (.cells #[.int .u64 0,(xt:Int),(xsh:Int),(0:Int),(sn:Int),(),.slice (adr xB) len xd] 316);rw[<- Hu] at Hv;have T9:=zI Hu;have Pa:=zI Ky;have Kz:=zI Hi;have KC:=zI Kx;have Hw:=zI hV;have Hx:=zI hT;have Hy:=zI hG;have Pb:=zI hP;have Hz:=zI G;have H0:=zI (hV.below Hv);have Td:=zI Hv;have Pc:=zI O;have t1:=O.at_ 1 (v:= (xt:Int)) rfl;have t2:=O.at_ 2 (v:= (xsh:Int)) rfl;have x10:=H0.out.box.at_ 10 (v:= .map (some mp)) rfl;have Pd:=Hg.out;have Pe:(Instr.lookup 65 (.map (some mp)) (.agg #[(xt:Int),(xsh:Int)]) true).run Tryz.prog wb.drew= .ok (.tuple #[.agg #[.int .u64 0,(0:Int),(0:Int),(0:Int),(0:Int),(),()],false]) wb.drew:=(H0.out.map.below (qaa _ _).drew).look (by omega) (by omega);have Hj:Below wb.heap.size wb (wb.alloc (.cells #[.int .u64 0,(0:Int),(0:Int),(0:Int),(0:Int),(),()] 316)).drew:=((qaa wb.heap.size wb).alloc (qab _) (.cells #[.int .u64 0,(0:Int),(0:Int),(0:Int),(0:Int),(),()] 316)).drew;have Pf:(Instr.lookup 65 (.map (some mp)) (.agg #[(xt:Int),(xsh:Int)]) true).run Tryz.prog (wb.alloc (.cells #[.int .u64 0,(0:Int),(0:Int),(0:Int),(0:Int),(),()] 316)).drew= .ok (.tuple #[.agg #[.int .u64 0,(0:Int),(0:Int),(0:Int),(0:Int),(),()],false]) (wb.alloc (.cells #[.int .u64 0,(0:Int),(0:Int),(0:Int),(0:Int),(),()] 316)).drew:=(H0.out.map.below Hj).look (by omega) (by omega);have z1:=(O.below Hj).at_ 1 (v:= (xt:Int)) rfl;have z2:=(O.below Hj).at_ 2 (v:= (xsh:Int)) rfl;have z10:=(H0.out.box.below Hj).at_ 10 (v:= .map (some mp)) rfl;clear Hj Pd K9 e2 Ta V Tb hV hT hG hP G Hu Ky Hi Kx O Hv;go_upto_region 5 with fail
    rw[<- T9.out,<- Pa.out];clear p0 p1 p2 p3 p4 p5 p6;obtain⟨w5,H9⟩:=exE ((wb.alloc (.cells #[.int .u64 0,(0:Int),(0:Int),(0:Int),(0:Int),(),()] 316)).drew);have Hk:Below wr.heap.size wr w5:=by rw[H9];exact Td.out.trans ((((qaa wb.heap.size wb).alloc (qab _) (.cells #[.int .u64 0,(0:Int),(0:Int),(0:Int),(0:Int),(),()] 316)).drew).mono Td.out.size)
    have Kl:Below wb.heap.size wb w5:=by rw[H9];exact((qaa wb.heap.size wb).alloc (qab _) (.cells #[.int .u64 0,(0:Int),(0:Int),(0:Int),(0:Int),(),()] 316)).drew
    have U:=Pc.out.below Kl;have Te:=Hw.out.below Hk;have Ka:=zI (Pb.out.below Hk);have Pg:=zI H9;have Ha:=zI (Hx.out.trans (SvT.of_below FB' FD' gx Hk));have KD:=Jax (Jax hJ.out Hx.out.chg (fun b hb hf=>Apart.not b (Ku.out b (hJ.out.lt b hb).1 (hJ.out.lt b hb).2) hf)) (Chg.of_below (F:=fun _=>False) Hk) (fun _ _ h=>h);have M:=Hg.out;have Hb:=Hy.out;have Ph:=T8.out;have KE:=KX.out;have Tf:=Ht.out;have Tg:=P.out.bd;have Pi:=P.out.n;have KG:v.id=id+(xs.take k).length:=Hb.id;have Pj:(xs.take k).length<=40:=by rw[qao,Kt.out];omega
    have Pk:=TV.out;have Pn:v.us.length<=us.length+needW (xs.take k):=Hb.len;obtain⟨_,_,e6,Th⟩:=Jao KD;cases e6
    have Km:=Jop KD;have Tj:=Jm1 Th M.2.2.2.2.1 (by omega);have Kn:((sgN xl.length:Nat):Int)<=((N - D:Nat):Int) - v.us.length:=(by omega)
    have Tk:AIn (Apart FB' FD' gx w5) (adr xB):=fun a e=>by
     have i:=Jfg hJ.out a e;exact Ha.out.apart (Ku.out _ i.1 i.2)
    have Po:Hid (Cs 246 #[gx,.agg #[.int .u64 0,(xt:Int),(xsh:Int),(0:Int),(sn:Int),(),.slice (adr xB) len xd]] w5 fun e w'=>∃FB2 FD2 A' c' id1,id1=v.id+1/\e= .returned (.tuple #[.agg #[.int .u64 (id1:Int),(xt:Int),(xsh:Int),(0:Int),(sn:Int),.slice (adr A') sn c',.slice (adr xB) len xd],(0:Int)])/\
      SvS w' FB2 FD2 gx N C B D R gd gen (v.put D N (xt,xsh,xl)).id mp bk (q+2*needW (xs.take (k+1))) nP lg bad (fun _ _=>none) (v.put D N (xt,xsh,xl)).us (some (Led.insAll (a'.getD []) (v.bl D N (xt,xsh,xl)))) b m (v.put D N (xt,xsh,xl)).f/\SvT w5 w' FB' FD' FB2 FD2 gx/\PmAt w' (Apart FB2 FD2 gx w') ⟨v.en D N (xt,xsh,xl),xl,A',c',xB,xd⟩/\AIn (made w5 w') (adr A')/\Led.DrawLaw (D:Int) ((N - D:Nat):Int) v.us (sgN xl.length:Int) (v.bl D N (xt,xsh,xl))):=by
     have X:=J8g ⟨xt,xsh,xl,xB,xd⟩ w5 Te P.out (by omega) (show xt<10 by omega) M.2.1 Tj Tk M.2.2.2.2.1 M.2.2.2.2.2 ⟨M.2.2.1,M.2.2.2.1⟩ Km Kn (by omega)
     have e0:(Wm.raw ⟨xt,xsh,xl,xB,xd⟩).val= .agg #[.int .u64 0,(xt:Int),(xsh:Int),(0:Int),(sn:Int),(),.slice (adr xB) len xd]:=by
      unfold Wm.raw PRaw.val;dsimp only;rw[<- KC.out,<- Kz.out];rfl
     rw[e0] at X;refine zI (X.mono ?_);rintro e w' ⟨FB2,FD2,A',c',rfl,i,h2,h3,h4,h5⟩;have Kb:(Jl3 D N v.us (sgN xl.length)).length=sn:=by have h6:=h5.len;rw[<- KC.out] at h6 ⊢;omega
     refine⟨FB2,FD2,A',c',v.id+1,rfl,?_,?_,h2,h3,h4,h5⟩
     · unfold Pm.raw PRaw.val
       dsimp only;rw[Kb,<- Kz.out]
     · rw[Tf,show q+2*(needW (xs.take k)+sgN xl.length)=q+2*needW (xs.take k)+2*sgN xl.length from by omega]
       exact i
    have Pp:=Ka.out.row.lt;have Kc:=zI (show ∀z,(Value.slice E k ec).ownBlock=some z ->w1.heap.size<=z/\z<w5.heap.size from fun z hz=>⟨(Ka.out.row.lt z hz).1,(Ka.out.row.lt z hz).2⟩);have Pq:=zI (show ∀a,adr xB=some a ->a.block<w1.heap.size from fun a e=>(Jfg hJ.out a e).2);have Tm:=zI (show D<=N from Tg.2.2.2.2.1);have g0:=U.at_ 0 (v:= .int .u64 0) rfl;have g1:=U.at_ 1 (v:= (xt:Int)) rfl;have g2:=U.at_ 2 (v:= (xsh:Int)) rfl;have g3:=U.at_ 3 (v:= (0:Int)) rfl;have g4:=U.at_ 4 (v:= (sn:Int)) rfl;have g5:=U.at_ 5 (v:= ()) rfl;have g6:=U.at_ 6 (v:= .slice (adr xB) len xd) rfl;clear Pp Hk Kl U Te H9 KD M Hb Ph KE Tf Tg Pi KG Pj Pk Pn Th Km Tj Kn Tk;go_region
    all_goals
     rw[<- Pg.out];clear Pe Pf z1 z2 z10 t1 t2 x10;go_wp2_with fail
     refine Po.out.mono ?_;rintro e w6 ⟨FB2,FD2,A',c',id1,Hl,rfl,KH,Kd,KI,Tn,KJ⟩;have P8:=zI Hl;have Hm:=zI KH;have KK:=zI Kd;have P9:=zI KI;have Pr:=zI Tn;have Ps:=zI KJ;obtain⟨gq,KL⟩:=exE w6.heap.size;obtain⟨w7,T⟩:=exE (w6.alloc (.cells #[.int .u64 (id1:Int),(xt:Int),(xsh:Int),(0:Int),(sn:Int),.slice (adr A') sn c',.slice (adr xB) len xd] 316));have d:=Bx.new w6 316 #[.int .u64 (id1:Int),(xt:Int),(xsh:Int),(0:Int),(sn:Int),.slice (adr A') sn c',.slice (adr xB) len xd];have Ke:=(qaa w6.heap.size w6).alloc (qab _) (.cells #[.int .u64 (id1:Int),(xt:Int),(xsh:Int),(0:Int),(sn:Int),.slice (adr A') sn c',.slice (adr xB) len xd] 316);rw[<- T,<- KL] at d;rw[<- T] at Ke;have KM:=zI T;have Pt:=zI KL;have Kb:(v.bl D N (xt,xsh,xl)).length=sn:=by have h6:=KJ.len;rw[<- KC.out] at h6;omega
     obtain⟨p,hp⟩:∃p:Pm,p=⟨v.en D N (xt,xsh,xl),xl,A',c',xB,xd⟩:=⟨_,rfl⟩
     have To:=zI (show p.cells=[.int .u64 (id1:Int),.int .i64 (xt:Int),.int .i64 (xsh:Int),.int .i64 0,.int .i64 (sn:Int),.slice (adr A') sn c',.slice (adr xB) len xd] from by
      rw[hp,Hl];unfold Pm.cells Pm.raw PRaw.cells SvV.en;dsimp only;rw[Kb,<- Kz.out])
     have J:=Ke.trans (((qaa w7.heap.size w7).alloc (qab _) (.cells p.cells.toArray 316)).mono Ke.size);have Hn:=zI ((Ka.out.turn Kd).below J);have y:=zI (KH.below J);have Z:=zI ((Ha.out.trans Kd).trans (SvT.of_below FB2 FD2 gx J))
     have Tp:=zI (show PmAt (w7.alloc (.cells p.cells.toArray 316)) (fun x=>Apart FB2 FD2 gx (w7.alloc (.cells p.cells.toArray 316)) x/\(Value.slice E k ec).ownBlock≠some x) p from by
      have h6:PmAt w6 (Apart FB2 FD2 gx w6) p:=by rw[hp];exact KI
      have h8:=h6.below J;have Pu:p.A=A':=(by rw[hp]);have Pv:p.B=xB:=(by rw[hp]);have PY:w1.heap.size<=w5.heap.size:=Ha.out.chg.size;refine⟨h8.bl,h8.rc,fun a e=>⟨?_,fun e2=> ?_⟩,fun a e=>⟨?_,fun e2=> ?_⟩⟩
      · have h9:=h8.inA a e
        exact⟨h9.1,h9.2.1,h9.2.2.1,qar h9.2.2.2 J.size⟩
      · rw[Pu] at e
        have h9:=Pr.out a e;have Pw:=Kc.out _ e2;have bc:=h9.1;omega
      · have h9:=h8.inB a e
        exact⟨h9.1,h9.2.1,h9.2.2.1,qar h9.2.2.2 J.size⟩
      · rw[Pv] at e
        have h9:=Pq.out a e;have Pw:=Kc.out _ e2;omega)
     have Tq:=zI (Sl.new w7 316 w7.heap.size p.cells p.cells.toArray rfl rfl);have Tr:=zI (show ∀u∈p.cells,u.oneCell'=true from by have:=J0d [p];simpa using this);have Px:=zI (show k+1<=1000000 from by omega);have Ts:=zI (show w1.heap.size<=(w7.alloc (.cells p.cells.toArray 316)).heap.size from Z.out.chg.size);have Tt:=zI (show p.cells.length=1*7 from rfl);have Pz:=zI hp;have i0:=d.at_ 0 (v:= .int .u64 (id1:Int)) rfl;have i1:=d.at_ 1 (v:= (xt:Int)) rfl;have i2:=d.at_ 2 (v:= (xsh:Int)) rfl;have i3:=d.at_ 3 (v:= (0:Int)) rfl;have i4:=d.at_ 4 (v:= (sn:Int)) rfl;have i5:=d.at_ 5 (v:= .slice (adr A') sn c') rfl;have i6:=d.at_ 6 (v:= .slice (adr xB) len xd) rfl;rw[To.out] at Hn y Z Tp Tq Tr Ts Tt;clear g0 g1 g2 g3 g4 g5 g6 Hl KH Kd KI Tn KJ KL T d Ke Kb hp J;go_upto_region 9 with fail
     rw[<- KM.out,<- Pt.out];go_wp2_with (at_builtin;refine Jq4 rfl _ _ rfl Hn.out.row rfl (some ⟨w7.heap.size,0,none⟩) 1 1 _ rfl Tt.out Tq.out Tr.out Px.out Ts.out ?_;intro E' ec' w9 Tu Y W)
     have KN:=zI (Chg.of_grown (F:=fun b=>(Value.slice E k ec).ownBlock=some b) Y (fun b e=>e));have PA:=zI (Hn.out.put y.out.book.ins y.out.disk.ins y.out.box.lt p Tp.out Y (by rw[To.out];exact Tu) W);have Tw:=HV.out.map.lt;have Tx:=Hf.out.size
     have PB:=zI (y.out.far KN.out (fun x e=>by
      have i:=Hn.out.out x e;have h2:=Kc.out x e;exact⟨i.1,i.2.1,i.2.2.1,by omega⟩))
     have KO:=Y.size;have KP:=zI (show SvT w1 w9 FB FD FB2 FD2 gx from⟨Z.out.chg.trans KN.out (fun x e=> .inr (Kc.out x e).1),fun x s=>Jcj (Z.out.fb x s) KO,fun x s=>Jcj (Z.out.fd x s) KO,Z.out.tl.trans (Tl.of_chg KN.out (fun e=>(Hn.out.out gx e).2.2.1 rfl))⟩);have Ty:=zI (Hy.out.put (xt,xsh,xl) Tm.out Ps.out);rw[<- Hh.out] at Ty;have PC:=zI (show(ps++[p]).map Pm.e=(v.put D N (xt,xsh,xl)).es from by rw[qbg,Hz.out,Pz.out];rfl);clear Tu Y W Tw Tx KO;go_roundw
     case rel=>exact⟨k+1,FB2,FD2,_,E',ec',ps++[p],v.put D N (xt,xsh,xl),by omega,by go_num,rfl,PB.out,KP.out,Ty.out,PC.out,PA.out⟩
     case measure=>simp[intOf];omega
  · have PE:k=n:=by omega
    subst PE;have PF:=zI (show xs.take k=xs from qap (by rw[Kt.out];exact qab _));rw[PF.out] at hV hG;have Hw:=zI hV;have Hy:=zI hG;have Hx:=zI hT;have KQ:=zI hP.pms;have Tz:=Hf.out.size
    have PG:=zI ((KW.out.below Hf.out).chg hT.chg (fun x s hf=>by
     have i:=TQ.out x s;exact Apart.not x (show Apart FB FD gx w1 x from⟨i.1,i.2.1,i.2.2.1,qar i.2.2.2 Tz⟩) hf))
    have PH:=zI ((TR.out.below Hf.out).chg hT.chg (fun x s=>by
     rcases s with rfl | s | s
     · exact He.out.1
     · exact He.out.2 x (.inl s)
     · exact He.out.2 x (.inr s)))
    have Ho:=TT.out v hG;rw[<- G] at Ho;have KE:=KX.out;have TA:=P.out.bd;have hN:=P.out.n
    have TB:t.tabs.length=t.r.ts.length:=by
     obtain⟨gt,F2,_,PI,_⟩:=KW.out.ex;exact PI.len.symm
    have TC:=hG.hold Kq.out G;have PJ:=zI TC;obtain⟨q1,TD⟩:=exE (q+2*needW xs);have TE:q1<=q+8200:=(by omega);rw[<- TD] at Hw;have PK:=zI (J8p E k ec ps wr Hw.out P.out PG.out KQ.out (by omega) Ho.1 PH.out TB Ho.2 (by omega));have KG:v.id=id+xs.length:=hG.id;have TF:=zI TE;have Hz:=zI G;have PL:=zI Ho.2;have PZ:C<=30:=TA.2.1;have TG:=zI hN;clear hV hG hT hP G Tz Ho KE TA hN TB TC TD TE KG;go_wp2_with fail
    refine PK.out.mono ?_;rintro e w5 ⟨FD3,nb,l,hl,KR,rfl,TH,TI⟩;obtain⟨L,hL⟩:=exE l.length
    have PM:L<=7680:=by
     have i:=PL.out;rw[<- hl,<- hL] at i;omega
    have Ko:nb<=30:=by
     rw[KR];unfold nbC;omega
    rw[<- hL];have HL:=zI hL;have PN:=zI hl;have PO:=zI KR;have PP:=zI Ko;have be:=zI PM;have Kf:=zI TH;have Ha:=zI TI;obtain⟨g1,TJ⟩:=exE (gen+1);have PQ:=TU.out;have bi:IntKind.u64.wrap ((gen:Int)+1)=(g1:Int):=by rw[IntWalk.u64_in _ (by omega)];omega
    have Kg:=zI TJ;have Hp:=(qaa w5.heap.size w5).drew;have Hq:=zI (Kf.out.below Hp);have PR:=zI (DsAt.super g1 L Hq.out.disk (by omega) (by omega) TG.out.1 TG.out.2 (by omega) (by have:=TF.out;omega));have x7:=Kf.out.box.at_ 7 (v:= gd) rfl;have x8:=Kf.out.box.at_ 8 (v:= .int .u64 (gen:Int)) rfl;have x0:=Kf.out.box.at_ 0 (v:= (N:Int)) rfl;have y7:=Hq.out.box.at_ 7 (v:= gd) rfl;have y8:=Hq.out.box.at_ 8 (v:= .int .u64 (gen:Int)) rfl;have y0:=Hq.out.box.at_ 0 (v:= (N:Int)) rfl;clear hl KR TH TI hL Ko Hp PQ;clear TJ;go_upto_region 16 with fail
    go_cut [14] (fun s14 wx=>s14= .int .i64 0/\DsW w5.drew FD3 wx gd N (q1+2*nb+2) (setS (putN v.f (Jb5 B (gen+1)) (chC l) nb) ((g1 % 2:Nat):Int) (strOf (suB g1 N L))))
    case first=>
     go_region_with (first
      | (go_at_call 248
         refine PR.out.mono ?_;rintro e w6 ⟨rfl,Kh⟩))
     all_goals (go_split_ands;go_wp2_with fail;go_meet;exact⟨rfl,Kh⟩)
    case rest=>
     obtain⟨rfl,Kh⟩:=hcut;have Ki:=Hq.out.disked Kh;have KK:=zI ((((SvT.of_below FB FD gx Hf.out).trans Hx.out).trans Ha.out).trans ((SvT.of_below FB' FD3 gx (qaa w5.heap.size w5).drew).trans Ki.2));have KS:=zI (Ha.out.trans ((SvT.of_below FB' FD3 gx (qaa w5.heap.size w5).drew).trans Ki.2));have Hm:=zI Ki.1;clear Ki Kh x7 x8 x0 y7 y8 y0;obtain⟨FD6,Kp⟩:=exE (grow FD3 w5.drew wc);rw[<- Kp] at Hm KK KS;clear Kp;have x8:=Hm.out.box.at_ 8 (v:= .int .u64 (gen:Int)) rfl;have f8:=Hm.out.box.free 8;obtain⟨w7,T⟩:=exE (wc.setCell ⟨gx,8,none⟩ (.int .u64 (g1:Int)));have Hc:=Hm.out.boxed 8 (.int .u64 (g1:Int)) (gen':=g1) (id':=v.id) (mp':=mp) (bk':=bk) (lg':=lg) (bad':=bad) rfl rfl rfl;rw[<- T] at Hc;have I:=zI Hc.1;have TK:=zI (KK.out.trans Hc.2);have TL:=zI (((KQ.out.sub (fun x s=>s)).chg (KS.out.trans Hc.2).chg (fun x s hf=>Apart.not x s hf)).sub (fun x s=>(KS.out.trans Hc.2).apart s));have PT:=zI (J0t (c:=ec) w7 I.out.box P.out TL.out (fun h=>h.2.2.1 rfl) PJ.out (by omega));have KM:=zI T;clear Hc T;go_upto_region 20 with fail
     rw[<- KM.out];clear x8 f8;go_wp2_with fail
     refine PT.out.mono ?_;rintro e w8 ⟨rfl,mp8,bk8,FB8,S,TM⟩;have KT:=S.chg;have Hd:=S.low
     have y:=zI (show SvS w8 FB8 FD6 gx N C B D R gd g1 v.id mp8 bk8 (q1+2*nb+2) k lg bad (mapOf ps) (usOf ps) none (Jcf ps) none (setS (putN v.f (Jb5 B (gen+1)) (chC l) nb) ((g1 % 2:Nat):Int) (strOf (suB g1 N L))) from
      ⟨S.box,S.map,S.book,I.out.disk.chg KT (fun x s e=>I.out.ngx.2 (by rw[<- e];exact s)),fun x s hd=>by have i:=Hd.2 x s;have h2:=I.out.disk.ins x hd;omega,
       ⟨fun h=>by have i:=Hd.2 gx h;have h2:=I.out.box.lt;omega,I.out.ngx.2⟩,⟨S.ne,fun h=>by have i:=Hd.1;have h2:=I.out.disk.ins _ h;omega⟩⟩)
     have Z:=zI (TK.out.trans (show SvT w7 w8 FB' FD6 FB8 FD6 gx from⟨KT.sub (fun x e=> .inl e),fun x s=> .inr ⟨Hd.2 x s,TM x s⟩,fun x h=> .inl h,S.tl⟩));have PU:=zI (show w.heap.size<=mp8 from qax TK.out.chg.size Hd.1);clear S TM KT Hd;have Hp:=(qaa w8.heap.size w8).drew;have H:=zI (y.out.below Hp);have x7:=y.out.box.at_ 7 (v:= gd) rfl;have x1:=y.out.box.at_ 1 (v:= (2:Int)) rfl;have x8:=y.out.box.at_ 8 (v:= .int .u64 (g1:Int)) rfl;have y7:=H.out.box.at_ 7 (v:= gd) rfl;have y1:=H.out.box.at_ 1 (v:= (2:Int)) rfl;have y8:=H.out.box.at_ 8 (v:= .int .u64 (g1:Int)) rfl;have TN:Hid (Cs 249 #[gd,(2:Int),(16:Int),.int .u64 (g1:Int)] w8.drew fun e w'=>∃g,e= .returned (.tuple #[(g:Nat),(0:Int)])/\Jso w' g ⟨gd,0,none⟩ 2 16 g1/\w8.drew.heap.size<=g/\Below w8.drew.heap.size w8.drew w'):=zI (J70 ⟨gd,0,none⟩ 2 16 g1 w8.drew (by omega) (by have:=Kg.out;omega));clear Hp;go_upto_region 21 with fail
     go_cut [13] (fun s13 wx=>∃gl w9,s13= .int .i64 0/\wx=w9.setCell ⟨gx,12,none⟩ (gl:Nat)/\Jso w9 gl ⟨gd,0,none⟩ 2 16 g1/\w8.heap.size<=gl/\Below w8.heap.size w8 w9)
     case first=>
      go_region_with (first
       | (go_at_call 249
          refine TN.out.mono ?_;rintro e w9 ⟨gl,rfl,Kj,Y,W⟩;have TO:=H.out.box.below W;have z12:=TO.at_ 12 (v:= .pointer lg) rfl;have zf12:=TO.free 12))
      all_goals (go_split_ands;go_wp2_with fail;go_meet;exact⟨gl,w9,rfl,rfl,Kj,by simpa using Y,(qaa w8.heap.size w8).drew.trans W⟩)
     case rest=>
      obtain⟨gl,w9,rfl,KU,Kj,Y,W⟩:=hcut;have Kk:=(y.out.below W).boxed 12 gl (gen':=g1) (id':=v.id) (mp':=mp8) (bk':=bk8) (lg':=some ⟨gl,0,none⟩) (bad':=bad) rfl rfl rfl;rw[<- KU] at Kk;have KP:=zI ((Z.out.trans (SvT.of_below FB8 FD6 gx W)).trans Kk.2);have Hb:gl≠gx:=by have:=y.out.box.lt;omega
      have PV:Hid (Jso wc gl ⟨gd,0,none⟩ 2 16 (gen+1)):=zI (by rw[KU,<- Kg.out];exact Bx.other Kj (p:=⟨gx,12,none⟩) Hb _);have e9:catB (gen+1) v.id t.r.now (Py.printL t.r.nm.toList t.r.ts) t.r.all v.es=l:=by rw[<- Hz.out];exact PN.out.symm
      have PW:Hid (SvS wc FB8 FD6 gx N C B D R gd (gen+1) v.id mp8 bk8 (q1+2*nb+2) ps.length (some ⟨gl,0,none⟩) bad (mapOf ps) (usOf ps) none (Jcf ps) none (setS (putN v.f (Jb5 B (gen+1)) (chC (catB (gen+1) v.id t.r.now (Py.printL t.r.nm.toList t.r.ts) t.r.all v.es)) (nbC (catB (gen+1) v.id t.r.now (Py.printL t.r.nm.toList t.r.ts) t.r.all v.es))) (((gen+1) % 2:Nat):Int) (strOf (suB (gen+1) N (catB (gen+1) v.id t.r.now (Py.printL t.r.nm.toList t.r.ts) t.r.all v.es).length)))):=by
       rw[e9,<- PO.out,<- HL.out,KQ.out.len,<- Kg.out];have:=Kk.1;rw[<- Kg.out] at this;exact zI this
      have TP:=zI (show w.heap.size<=gl/\ ¬ FB8 gl/\ ¬ FD6 gl from⟨qax Z.out.chg.size Y,fun h=>by have:=y.out.book.ins gl h;omega,fun h=>by have:=y.out.disk.ins gl h;omega⟩);clear Kk KU Kj Y W Hb e9;clear x7 x1 x8 y7 y1 y8;go_wp2_with fail
      go_ret;exact⟨FB8,FD6,mp8,bk8,gl,ps,v,q1+2*nb+2,rfl,Hy.out,Hz.out,by have i:=PP.out;have h2:=TF.out;omega,PW.out,PV.out,KP.out,PU.out,TP.out⟩
