/- Laws that the walk of the last text wants. -/
import Derived.Test.YtglmhddbhhcjdaaGreatDoorC38
import Derived.Test.YtglmhddbhhcjdaaGreatDoorC35
import Derived.Test.YtglmhddbhhcjdaaGreatDoorC39
set_option maxRecDepth 100000
set_option linter.unusedSimpArgs false
set_option maxHeartbeats 4000000
namespace Go.Proofs.YtglmhddbhhcjdaaGreatDoor
open Go.RowKit
structure SegR (f:Int ->Option ByteArray) (D N:Nat) (e:En) (l:List Rc):Prop where
 on:∀j (hj:j<e.bl.length),some (Jav f e.bl[j])=(sgL e.id e.tier e.shard l)[j]?
 len:e.bl.length=sgN l.length
 n:1<=l.length/\l.length<=10000
 fine:∀r∈l,r.Fine
 lt:l.Pairwise Rc.lt
 bl:∀z∈e.bl,(D:Int)<=z/\z<(N:Int)
theorem SegR.strs{f:Int ->Option ByteArray}{D N:Nat}{e:En}{l:List Rc}(h:SegR f D N e l):bksL f e.bl=(sgL e.id e.tier e.shard l).map Value.string:=by
 apply qdc;intro j;unfold bksL;rw[qb3,qb3];by_cases z:j<e.bl.length
 · rw[<- h.on j z,qah z];rfl
 · rw[qbj (by omega),qbj (by rw[Jcz,<- h.len];omega)];rfl
theorem J5r{w:World}{A:Option Addr}{n:Nat}{zs:List Int}(h:Ints w .i64 A n zs)(hn:1<=n):∃a,A=adr a:=by
 obtain⟨b,off,e,_⟩:=h.sl.at_ (by intro e;have z:=congrArg List.length e;have:=h.len;simp at z;rw[z] at this;simp at this;omega);exact⟨some (b,off),e⟩
structure SrS (w1 wr:World) (P:Option Addr) (k pc:Nat) (ps:List Pm):Prop where
 row:wr.ownsRow w1.heap.size 316 7 (.slice P k pc) k (ps.flatMap Pm.cells)
 rc:∀p∈ps,wr.ownsRow w1.heap.size 142 7 (.slice (adr p.B) p.l.length p.d) p.l.length (p.l.flatMap Rc.cells)
 bel:Below w1.heap.size w1 wr
section
variable {w1 wr w':World} {P:Option Addr} {k pc:Nat} {ps:List Pm}
theorem SrS.below(h:SrS w1 wr P k pc ps)(hb:Below wr.heap.size wr w'):SrS w1 w' P k pc ps:=
 ⟨Jaf h.row hb,fun p hp=>Jaf (h.rc p hp) hb,h.bel.trans (hb.mono h.bel.size)⟩
theorem SrS.put{P':Option Addr}{pc':Nat}(h:SrS w1 wr P k pc ps)(p:Pm)(hr:wr.ownsRow w1.heap.size 142 7 (.slice (adr p.B) p.l.length p.d) p.l.length (p.l.flatMap Rc.cells))(hg:wr.grownBy w' (Value.slice P k pc).ownBlock)(ho:w'.ownsRow w1.heap.size 316 7 (.slice P' (k+1) pc') (k+1) (ps.flatMap Pm.cells++p.cells)):SrS w1 w' P' (k+1) pc' (ps++[p]):=by
 refine⟨by rw[qav];simpa using ho,fun q z=> ?_,Jbd h.row hg h.bel h.bel.size⟩;rcases qbe.1 z with z | z
 · exact(h.rc q z).kept hg (Jhq (h.rc q z) h.row (by decide))
 · rw[qa1.1 z];exact hr.kept hg (Jhq hr h.row (by decide))
end
structure LdS (w wr:World) (g4 g6:Nat) (cs:Array Value) (nm:ByteArray) (A:Option Addr) (n c:Nat):Prop where
 part:Bx wr g4 316 cs
 pol:Bx wr g6 101 #[nm,.slice A n c]
 bel:Below w.heap.size w wr
section
variable {w wr w':World} {g4 g6:Nat} {cs:Array Value} {nm:ByteArray} {A:Option Addr} {n c:Nat}
theorem LdS.below(h:LdS w wr g4 g6 cs nm A n c)(hb:Below wr.heap.size wr w'):LdS w w' g4 g6 cs nm A n c:=⟨h.part.below hb,h.pol.below hb,h.bel.trans (hb.mono h.bel.size)⟩
end
theorem J5s{F:Nat ->Prop}{gt:Nat}{t:Tv}(eid et es m:Nat)(xA:Option Addr)(xc:Nat)(B:Option Addr)(rn d:Nat)(l:List Rc)(nm:ByteArray)(A:Option Addr)(n c:Nat)(ts:List Ti)(w:World)(h:Jag w F gt t)(hT:Tis w A n ts)(he:et<t.tabs.length)(hn:n=t.tabs.length)(sh:Nat)(hsh:∀ (K:et<ts.length),(ts[et]).sh=(sh:Int))(hsh1:1<=sh/\sh<=8)(hes:es<sh)(hR:Rcs w B rn l)(hB:AIn (fun b=> ¬ F b) B)(hln:rn<=10000)(hall:∀r∈l,shO sh r=es)(hld:∀r∈l,t.r.from_ et<=r.st/\Jau (t.r.ev et) r=true)(hev: -9223372036854775808<=t.r.ev et/\t.r.ev et<=9223372036854775807)(hfew:(t.tab et).length+rn<1000000)(hn5:n<=5):
  Cs 217 #[.agg #[.int .u64 (eid:Int),(et:Int),(es:Int),(0:Int),(m:Int),.slice xA m xc,.slice B rn d],(0:Int),polV nm A n c,.func (Fn.func 187) #[gt] #[]] w fun e w'=>e= .returned true/\Jag w' F gt (t.setTab et (addL (t.r.ev et) (t.tab et) l))/\Chg F w w':=by
 obtain⟨g4,g⟩:=exE w.heap.size;obtain⟨g6,f⟩:=exE (w.heap.size+1);obtain⟨w1,u⟩:=exE ((w.alloc (.cells #[.int .u64 (eid:Int),(et:Int),(es:Int),(0:Int),(m:Int),.slice xA m xc,.slice B rn d] 316)).alloc (.cells #[nm,.slice A n c] 101));have S:(w.alloc (.cells #[.int .u64 (eid:Int),(et:Int),(es:Int),(0:Int),(m:Int),.slice xA m xc,.slice B rn d] 316)).heap.size=w.heap.size+1:=by simp
 have R:Bx w1 g6 101 #[nm,.slice A n c]:=by
  have:=Bx.new (w.alloc (.cells #[.int .u64 (eid:Int),(et:Int),(es:Int),(0:Int),(m:Int),.slice xA m xc,.slice B rn d] 316)) 101 #[nm,.slice A n c];rw[S,<- f] at this;rw[u];exact this
 have y:=zI (show LdS w w1 g4 g6 #[.int .u64 (eid:Int),(et:Int),(es:Int),(0:Int),(m:Int),.slice xA m xc,.slice B rn d] nm A n c from
  ⟨by rw[u,g];exact(Bx.new w _ _).alloc _,R,by rw[u];exact((qaa _ w).alloc (qab _) _).alloc (by simp) _⟩)
 have Ha:=zI u;have P:=zI g;have Hb:=zI f;have HT:=zI h;have Hy:=zI hT;have s:=zI hR;have HB:=zI hB;have Hc:=zI hall;have Hd:=zI hld;have He:=zI hev;have Hf:=zI hfew;have Hx:et<n:=by omega
 have Hg:=zI he;have K:et<ts.length:=by rw[hT.len];omega
 obtain⟨b2,o2,O,Hh,Hi⟩:=hT.get K
 have hq:∀W,Below w.heap.size w W ->W.cell? ⟨b2,o2+et*4+3,none⟩=some (.int .i64 (sh:Int)):=fun W hW=>by
  rw[<- hsh K];have:=(hT.below hW).get K;obtain⟨b3,o3,N,Hz,M⟩:=this;rw[O] at N;cases N
  exact M.c3
 subst O;have HQ:=zI hq;have d1:decide ((et:Int)<0)=false:=qae (by omega);have d2:decide ((n:Int)<=(et:Int))=false:=qae (by omega);have d3:decide ((sh:Int)<=(es:Int))=false:=qae (by omega);have L:=(qaa w1.heap.size w1).drew;have z:=zI (y.out.below L);have t1:=y.out.part.at_ 1 (v:= (et:Int)) rfl;have t2:=y.out.part.at_ 2 (v:= (es:Int)) rfl;have t1':=z.out.part.at_ 1 (v:= (et:Int)) rfl;have t2':=z.out.part.at_ 2 (v:= (es:Int)) rfl;have q1:=y.out.pol.at_ 1 (v:= .slice (some ⟨b2,o2,none⟩) n c) rfl;have q1':=z.out.pol.at_ 1 (v:= .slice (some ⟨b2,o2,none⟩) n c) rfl;have c3:=HQ.out w1 y.out.bel;have c3':=HQ.out w1.drew z.out.bel;clear u g f S R h hT hR hB hall hld hev hfew hsh K Hi hq L he hn Hh;go_enter Tryz.func217,Tryz.ntmps217;go_upto_region 1 with fail
 rw[<- Ha.out,<- Hb.out,<- P.out];go_upto_region 2 with fail
 go_quiet (fail)
 have a:Below w1.heap.size w1 (w1.drewN nq):=below_drewN (qaa _ _) nq;obtain⟨w2,J⟩:=exE (w1.drewN nq);rw[<- J] at a ⊢;have I:=zI (y.out.below a);have e2:decide (n<=et)=false:=qae (by omega);have e3:decide (sh<=es)=false:=qae (by omega);have t6:=I.out.part.at_ 6 (v:= .slice B rn d) rfl;clear d1 d2 d3 t1 t2 t1' t2' q1 q1' c3 c3' a J;simp only[e2,e3,Bool.or_self];go_wp2_with fail
 clear e2 e3 t6;go_loopw [43] (fun j wr=>∃k:Nat,k<=rn/\j= .int .i64 (k:Int)/\LdS w wr g4 g6 #[.int .u64 (eid:Int),(et:Int),(es:Int),(0:Int),(m:Int),.slice xA m xc,.slice B rn d] nm (some ⟨b2,o2,none⟩) n c) (fun j _=>rn - (intOf j).toNat)
 case atStart=>exact⟨0,qaq _,rfl,I.out⟩
 case round=>
  obtain⟨k,hk,rfl,o⟩:=hrel;have Hj:=zI s.out.len;by_cases Hk:k<rn
  · have K:k<l.length:=by rw[Hj.out];exact Hk
    obtain⟨b,off,e5,H0,r0,r1,r2,r3,r4,r5,r6⟩:=(s.out.below o.bel).get K;have Hl:=zI (s.out.nm _ (qan K));have Hm:=zI (Hc.out _ (qan K));generalize l[k]'K=x at*;have Z:=(qaa wr.heap.size wr).alloc (qab _) (.cells #[x.nm,(x.st:Int),(x.ag.c:Int),(x.ag.hi:Int),.int .u64 x.ag.lo,(x.ag.mn:Int),(x.ag.mx:Int)] 142);have q:=Bx.new wr 142 #[x.nm,(x.st:Int),(x.ag.c:Int),(x.ag.hi:Int),.int .u64 x.ag.lo,(x.ag.mn:Int),(x.ag.mx:Int)];obtain⟨gb,Y⟩:=exE wr.heap.size;obtain⟨w5,V⟩:=exE (wr.alloc (.cells #[x.nm,(x.st:Int),(x.ag.c:Int),(x.ag.hi:Int),.int .u64 x.ag.lo,(x.ag.mn:Int),(x.ag.mx:Int)] 142));rw[<- V] at Z q;rw[<- Y] at q;have H:=zI (fun W=>Jq0 x sh W hsh1.1 Hl.out);rw[Hm.out] at H;have G:=zI (o.below Z);have Hn:=zI q;have Ho:=zI Y;have Hp:=zI V
    have E:=zI (fun W (hW:Below w5.heap.size w5 W)=>(show(W.cell? ⟨g4,2,none⟩=some (.int .i64 (es:Int))/\W.cell? ⟨g6,1,none⟩=some (.slice (some ⟨b2,o2,none⟩) n c)/\W.cell? ⟨b2,o2+et*4+3,none⟩=some (.int .i64 (sh:Int))/\W.cell? ⟨gb,0,none⟩=some (.string x.nm)/\W.cell? ⟨gb,1,none⟩=some (.int .i64 x.st)/\W.cell? ⟨gb,2,none⟩=some (.int .i64 x.ag.c)/\W.cell? ⟨gb,3,none⟩=some (.int .i64 x.ag.hi)/\W.cell? ⟨gb,4,none⟩=some (.int .u64 x.ag.lo)/\W.cell? ⟨gb,5,none⟩=some (.int .i64 x.ag.mn)/\W.cell? ⟨gb,6,none⟩=some (.int .i64 x.ag.mx))/\Below w5.heap.size w5 W from by
     have h1:=G.out.below hW;have i:=Hn.out.below hW;exact⟨⟨h1.part.at_ 2 rfl,h1.pol.at_ 1 rfl,HQ.out W h1.bel,i.at_ 0 rfl,i.at_ 1 rfl,i.at_ 2 rfl,i.at_ 3 rfl,i.at_ 4 rfl,i.at_ 5 rfl,i.at_ 6 rfl⟩,hW⟩))
    have K0:=zI (E.out _ (qaa w5.heap.size w5).drew);subst e5;clear o Z q Y V;go_upto_region 7 with fail
    rw[<- Hp.out,<- Ho.out];clear r0 r1 r2 r3 r4 r5 r6
    go_region_held3 (fun W=>(W.cell? ⟨g4,2,none⟩=some (.int .i64 (es:Int))/\W.cell? ⟨g6,1,none⟩=some (.slice (some ⟨b2,o2,none⟩) n c)/\W.cell? ⟨b2,o2+et*4+3,none⟩=some (.int .i64 (sh:Int))/\W.cell? ⟨gb,0,none⟩=some (.string x.nm)/\W.cell? ⟨gb,1,none⟩=some (.int .i64 x.st)/\W.cell? ⟨gb,2,none⟩=some (.int .i64 x.ag.c)/\W.cell? ⟨gb,3,none⟩=some (.int .i64 x.ag.hi)/\W.cell? ⟨gb,4,none⟩=some (.int .u64 x.ag.lo)/\W.cell? ⟨gb,5,none⟩=some (.int .i64 x.ag.mn)/\W.cell? ⟨gb,6,none⟩=some (.int .i64 x.ag.mx))/\Below w5.heap.size w5 W)
     (first
       | with_reducible exact K0.out
       | with_reducible exact K6.out)
     (first
       | (go_at_call 286
          refine(H.out _).mono ?_;rintro e w6 ⟨rfl,D⟩;have K6:=zI (E.out _ ((qaa w5.heap.size w5).drew.trans D))))
    have Hq:=zI (G.out.below K6.out.2);go_split_ands;clear D;go_wp2_with fail
    go_roundw
    case rel=>exact⟨k+1,by omega,by go_num,Hq.out⟩
    case measure=>simp[intOf];omega
  · have Hr:k=rn:=by omega
    subst Hr;have U:=(qaa wr.heap.size wr).drew;have p:=o.bel.trans (U.mono o.bel.size);have Hs:=zI (J4s (c:=d) wr.drew (HT.out.below p) et Hg.out (s.out.below p) HB.out Hf.out Hd.out He.out);have Ht: ¬ F g4:=fun hh=>by have h1:=HT.out.ins g4 hh;have i:=P.out;omega
    have t6:=o.part.at_ 6 (v:= .slice B k d) rfl;have C:=zI (o.part.below U);have t6':=C.out.at_ 6 (v:= .slice B k d) rfl;have Hu:=zI (show Chg F w wr.drew from Chg.of_below p);clear U p o;go_upto_region 10 with fail
    go_region_with (first
     | (go_at_call 187
        refine Hs.out.mono ?_;rintro e w7 ⟨rfl,hJ,T⟩;have z6:=(C.out.chg T Ht).at_ 6 (v:= .slice B k d) rfl))
    all_goals
     have Hv:=zI hJ;have Hw:=zI (Hu.out.trans T (fun _ h=> .inl h));clear hJ T;go_wp2_with fail
     go_ret;exact⟨rfl,Hv.out,Hw.out⟩
noncomputable def ldT (t:Tv) (p:Pm):Tv:=t.setTab p.e.tier (addL (t.r.ev p.e.tier) (t.tab p.e.tier) p.l)
noncomputable def Jg0 (t:Tv) (ps:List Pm):Tv:=ps.foldl ldT t
theorem Jxi(t:Tv)(ps:List Pm)(p:Pm):Jg0 t (ps++[p])=ldT (Jg0 t ps) p:=by unfold Jg0;rw[qb8];rfl
theorem J8z(ps:List Pm):∀t:Tv,(Jg0 t ps).r=t.r:=by
 induction ps with
 | nil=>intro t;rfl
 | cons p r ih=>intro t;exact ih (ldT t p)
theorem Jrm(ps:List Pm):∀t:Tv,(Jg0 t ps).tabs.length=t.tabs.length:=by
 induction ps with
 | nil=>intro t;rfl
 | cons p r ih=>intro t;exact(ih (ldT t p)).trans (Tv.setTab_len _ _ _)
structure LdOk (t:Tv) (ts:List Ti) (p:Pm):Prop where
 tier:p.e.tier<ts.length
 sh:∃sh:Nat,(∀K:p.e.tier<ts.length,(ts[p.e.tier]).sh=(sh:Int))/\1<=sh/\sh<=8/\p.e.shard<sh/\∀r∈p.l,shO sh r=p.e.shard
 n:p.l.length<=10000
 fit:∀r∈p.l,t.r.from_ p.e.tier<=r.st/\Jau (t.r.ev p.e.tier) r=true
 ev: -9223372036854775808<=t.r.ev p.e.tier/\t.r.ev p.e.tier<=9223372036854775807
 few:(t.tab p.e.tier).length+p.l.length<1000000
theorem J14{G G':Nat ->Prop}{g N C B D R gd gen id mp bk:Nat}{lg:Option Addr}{bad:Int}(k i:Nat)(now:Int)(nm:ByteArray)(A:Option Addr)(n c:Nat)(B':Option Addr)(c2:Nat)(E:Option Addr)(en ec:Nat)(ts:List Ti)(fl:List Int)(ms:List Em)(P:Option Addr)(np pc:Nat)(ps:List Pm)(t:Tv)(w:World)(hX:Bo w g (Jdm N C B D R ⟨gd,0,none⟩ gen id mp bk lg bad))(hL:Jd3 N C B D R)(hC:Jgz w G' k i now nm A n c B' c2 E en ec ts fl ms)(hP:Jgy w G P np ps)(hG:Ins G w)(hf:Jn1 ts fl)(hnp:np<=100)(hld:∀j (hj:j<ps.length),LdOk (Jg0 ⟨⟨now,nm,ts,fl⟩,List.replicate n []⟩ (ps.take j)) ts ps[j])(ht:t=Jg0 ⟨⟨now,nm,ts,fl⟩,List.replicate n []⟩ ps)(hfew:t.Few)(hneed:t.need<=(R:Int))(hAG:AIn G A):
  Cs 133 #[g,.agg (Ja1 k i now nm A n c B' c2 E en ec),.slice P np pc] w fun e w'=>∃g',e= .returned (.tuple #[(g':Nat),true])/\StAt w' (made w w') g' R t/\Below w.heap.size w w':=by
 obtain⟨hv,h1,h5,Hn,_⟩:=Py.check_fine hC.hck;obtain⟨w1,Y⟩:=exE (w.alloc (.cells (Ja1 k i now nm A n c B' c2 E en ec) 207));obtain⟨gc,M⟩:=exE w.heap.size;have s:Below w.heap.size w w1:=by rw[Y];exact(qaa _ w).alloc (qab _) _
 have L:Bx w1 gc 207 (Ja1 k i now nm A n c B' c2 E en ec):=by rw[Y,M];exact Bx.new w _ _
 have q:=hC.hts.len
 have Kf:=zI (Jyl nm A n c ts now B' n c2 fl w1 (fun W hW=>by
  have h:=Py.check_any nm A n c ts W hC.hnm hW hC.hc;rw[hC.hck] at h;exact h) (hC.hts.below s) hC.hc (hC.hfl.below s) hC.hnow hf (fun t ht=>(Hn t ht).ev.1) (by omega) hC.hnm)
 have Kg:=zI q;have Kh:=zI (hC.hts.below s);have Ki:1<=n/\n<=5:=by rw[<- q];exact⟨h1,h5⟩
 have HX:=zI hX;have Ho:=zI hL;have Kj:=zI (hP.below s);have Kk:=zI hG;have Kl:=zI hld;have HT:=zI ht;have Km:=zI hfew;have Kn:=zI hneed;have J:=zI s;have I:=zI L;have Hp:=zI M;have Ko:=zI Y;have Kp:=zI hAG;have Hq:=zI hP.len;have Kq:=zI (fun W=>J7y W);obtain⟨x0,x1,x2,x3,x4,x5,x6,x7,x8,x9,x10,x11⟩:=Jbm L;clear hX hL hC hP hG hld ht hfew hneed hAG s L M Y hv h1 h5 Hn q hf;go_enter Tryz.func133,Tryz.ntmps133;go_upto_region 1 with fail
 have Hr:w.alloc (.cells #[.int .u64 (k:Int),.int .u64 (i:Int),(now:Int),nm,.slice A n c,.slice B' n c2,ByteArray.empty,(),(),(0:Int),(0:Int),.slice E en ec] 207)=w1:=Ko.out.symm;rw[Hr,<- Hp.out];clear Hr;go_wp2_with fail
 refine Kf.out.mono ?_;rintro e w2 ⟨gt,rfl,Hs,p⟩;have Ht:=zI Hs;have Hu:=zI p;have Kr:=zI (I.out.below p);clear x0 x1 x2 x3 x4 x5 x6 x7 x8 x9 x10 x11 Hs p;obtain⟨x0,x1,x2,x3,x4,x5,x6,x7,x8,x9,x10,x11⟩:=Jbm Kr.out;go_wp2_with fail
 refine(Kq.out w2).mono ?_;rintro e w3 ⟨rfl,o⟩;have Hv:=o;have r:=zI (Hu.out.trans (o.mono Hu.out.size));obtain⟨F,hF⟩:∃F:Nat ->Prop,F=made w1 w2:=⟨_,rfl⟩;rw[<- hF] at Ht;have Ks:=zI (Ht.out.below o);have HF:=zI (show ∀x,F x ->w1.heap.size<=x/\x<w2.heap.size from fun x hx=>by rw[hF] at hx;exact hx);have Kt:=zI o.size;clear x0 x1 x2 x3 x4 x5 x6 x7 x8 x9 x10 x11 o Hv hF;go_wp2_with fail
 go_loopw [47] (fun j wr=>∃h:Nat,h<=np/\j= .int .i64 (h:Int)/\Jag wr F gt (Jg0 ⟨⟨now,nm,ts,fl⟩,List.replicate n []⟩ (ps.take h))/\Chg F w3 wr) (fun j _=>np - (intOf j).toNat)
 case atStart=>exact⟨0,qaq _,rfl,by simpa[Jg0] using Ks.out,Chg.refl _ _⟩
 case round=>
  obtain⟨h,hh,rfl,hT,O⟩:=hrel;have Hw:=J.out.size;have Hx:=r.out.size;have l:Dj G F:=fun x hx hf=>by have h1:=Kk.out x hx;have h2:=(HF.out x hf).1;omega
  have V:=(Kj.out.below r.out).chg O l;have f: ¬ F gc:=fun hf=>by have h2:=(HF.out gc hf).1;have h3:=Hp.out;have h4:=I.out.lt;omega
  have H:=(I.out.below r.out).chg O f;have hJ:=(Kh.out.below r.out).chg O (Kp.out.dj l);by_cases q:h<np
  · have K:h<ps.length:=by rw[Hq.out];exact q
    obtain⟨b2,o2,Ku,p,y⟩:=V.get K;have Ha:=V.row _ (qan K);have Kv:=Kl.out h K;have Kw:=zI (show ps.take (h+1)=ps.take h++[ps[h]] from qam K);generalize ps[h]'K=x at*;have U:=zI (Jxi ⟨⟨now,nm,ts,fl⟩,List.replicate n []⟩ (ps.take h) x);rw[<- Kw.out] at U;have Hy:=zI (show(Jg0 ⟨⟨now,nm,ts,fl⟩,List.replicate n []⟩ (ps.take h)).tabs.length=n from by rw[Jrm];simp);generalize Jg0 ⟨⟨now,nm,ts,fl⟩,List.replicate n []⟩ (ps.take h)=T at*;obtain⟨⟨eid,et,es,bl⟩,xl,xA,xc,xB,xd⟩:=x;unfold ldT at U;dsimp only at U;obtain⟨Hb,⟨sh,Hc,Hz,H0,Hd,He⟩,Hf,Hg,Hh,d⟩:=Kv;dsimp only at Hb Hc Hd He Hf Hg Hh d;obtain⟨m,hm⟩:=exE bl.length;obtain⟨rn,Z⟩:=exE xl.length;have p0:wr.cell? ⟨b2,o2+h*7,none⟩=some (.int .u64 (eid:Int)):=y.c0;have p1:wr.cell? ⟨b2,o2+h*7+1,none⟩=some (.int .i64 (et:Int)):=y.c1;have p2:wr.cell? ⟨b2,o2+h*7+2,none⟩=some (.int .i64 (es:Int)):=y.c2;have p3:wr.cell? ⟨b2,o2+h*7+3,none⟩=some (.int .i64 0):=y.c3;have p4:wr.cell? ⟨b2,o2+h*7+4,none⟩=some (.int .i64 (m:Int)):=by rw[hm];exact y.c4
    have p5:wr.cell? ⟨b2,o2+h*7+5,none⟩=some (.slice (adr xA) m xc):=by rw[hm];exact y.c5
    have p6:wr.cell? ⟨b2,o2+h*7+6,none⟩=some (.slice (adr xB) rn xd):=by rw[Z];exact y.c6
    subst Ku;obtain⟨gb,Hi⟩:=exE wr.heap.size;obtain⟨wb,S⟩:=exE (wr.alloc (.cells #[.int .u64 (eid:Int),(et:Int),(es:Int),(0:Int),(m:Int),.slice (adr xA) m xc,.slice (adr xB) rn xd] 316));have z:=Bx.new wr 316 #[.int .u64 (eid:Int),(et:Int),(es:Int),(0:Int),(m:Int),.slice (adr xA) m xc,.slice (adr xB) rn xd];have u:=(qaa wr.heap.size wr).alloc (qab _) (.cells #[.int .u64 (eid:Int),(et:Int),(es:Int),(0:Int),(m:Int),.slice (adr xA) m xc,.slice (adr xB) rn xd] 316);rw[<- S,<- Hi] at z;rw[<- S] at u;have Hj:=Ha.rc.below u;rw[<- Z] at Hj;have Kx:et<n:=by rw[<- Kg.out];exact Hb
    have H9:=zI (J5s (F:=F) (gt:=gt) (t:=T) eid et es m (adr xA) xc (adr xB) rn xd xl nm A n c ts wb (hT.below u) (hJ.below u) (by rw[Hy.out];exact Kx) Hy.out.symm sh Hc ⟨Hz,H0⟩ Hd Hj (fun a e hf=>l _ (Ha.inB a e) hf) (by rw[Z];exact Hf) He Hg Hh (by rw[Z];exact d) Ki.2);rw[<- U.out] at H9;have d5:decide ((et:Int)<5)=true:=qaj (by omega);have d6:decide ((5:Int)<=(et:Int))=false:=qae (by omega);have Ky:=zI S;have Kz:=zI Hi;have KC:=zI (O.then_below u);have y0:=z.at_ 0 (v:= .int .u64 (eid:Int)) rfl;have y1:=z.at_ 1 (v:= (et:Int)) rfl;have y2:=z.at_ 2 (v:= (es:Int)) rfl;have y3:=z.at_ 3 (v:= (0:Int)) rfl;have y4:=z.at_ 4 (v:= (m:Int)) rfl;have y5:=z.at_ 5 (v:= .slice (adr xA) m xc) rfl;have y6:=z.at_ 6 (v:= .slice (adr xB) rn xd) rfl;have Ka:=zI (H.below u);have KD:=zI z;have KE:=zI (show ¬ F gb from fun hf=>by have h2:=(HF.out gb hf).2;have h3:=Kt.out;have h4:=O.size;omega);have x3:=Ka.out.at_ 3 (v:= nm) rfl;have x4:=Ka.out.at_ 4 (v:= .slice A n c) rfl;clear Hw Hx l V f H hJ y Ha Hb Hc Hz H0 Hd He Hf Hg Hh d hm Z Hi S z u Hj hT O p;go_upto_region 12 with fail
    rw[<- Ky.out,<- Kz.out];clear p0 p1 p2 p3 p4 p5 p6;go_wp2_with fail
    refine H9.out.mono ?_;rintro e w7 ⟨rfl,Kb,Hk⟩;have KG:=zI Kb;have KH:=zI (KC.out.trans Hk (fun _ h=> .inl h));have Kc:=KD.out.chg Hk KE.out;clear Kb Hk y0 y1 y2 y3 y4 y5 y6 x3 x4;have y1:=Kc.at_ 1 (v:= (et:Int)) rfl;clear Kc;go_wp2_with fail
    go_roundw
    case rel=>exact⟨h+1,by omega,by go_num,KG.out,KH.out⟩
    case measure=>simp[intOf];omega
  · have KI:h=np:=by omega
    subst KI;rw[show ps.take h=ps from qap (by rw[Hq.out];exact qab _),<- HT.out] at hT;have Hl:Below w.heap.size w wr:=J.out.trans (((r.out).trans (O.below (fun x hx=>(HF.out x hx).1) r.out.size)).mono J.out.size)
    have KJ:=zI (Jz0 wr (by have:=Ho.out.bd;have:=Ho.out.n;omega) hT (by
     have h1:=hT.len;rw[HT.out,Jrm] 
     simp
     omega) Km.out Kn.out)
    have x6:=(HX.out.below Hl).at_ 6 (v:= (R:Int)) rfl;have Hm:=zI Hl;clear Hl hT O Hw Hx l V f H hJ;go_wp2_with fail
    refine KJ.out.mono ?_;rintro e w9 ⟨g',rfl,Kd,Ke⟩;have KK:=zI (Kd.sub (G:=made w w9) (fun b hb=>⟨qax Hm.out.size hb.1,hb.2⟩) (fun b hb=>hb.2));have KL:=zI (Hm.out.trans (Ke.mono Hm.out.size));clear Kd Ke x6;go_wp2_with fail
    go_ret2;exact⟨g',rfl,KK.out,KL.out⟩
def SegX (f:Int ->Option ByteArray) (e:En):Prop:=∃l p0 M R fd ss,Jco e.id e.tier e.shard l p0 M R fd e.bl.length ss/\bksL f e.bl=ss.map Value.string
theorem Jco.size{id tier shard:Nat}{l:List Rc}{p0:Nat}{M R:List UInt8}{f:Fd}{m:Nat}{ss:List ByteArray}(h:Jco id tier shard l p0 M R f m ss){p:Nat}(hp:p<ss.length):(ss[p]).size=256:=by
 by_cases e:p=p0
 · subst e
   have y:=h.hat0;rw[qah hp] at y;rw[qbr y,Jaa,<- qas,qad,h.pre,h.body]
 · have z:p<m:=by rw[<- h.hlen];exact hp
   have y:=h.hat_ p z e;rw[qah hp] at y;rw[qbr y,Jaa,Jf9 (h.bk z).fine (h.bk z).len.2]
theorem Jxj{id tier shard:Nat}{l:List Rc}{p0:Nat}{M R:List UInt8}{f:Fd}{m d:Nat}{ss:List ByteArray}{B:Option Addr}(w:World)(h:Jco id tier shard l p0 M R f m ss)(hB:Strs w B m ss):
  Cs 214 #[.int .u64 (id:Int),(tier:Int),(shard:Int),.slice B m d] w (RB w (.tuple #[(),(6:Int)])):=by
 by_cases z:f.good/\M=sgM/\R=zeros 28
 · exact Jtg w h hB z
 · exact Jtf w h hB z
theorem J15{F G:Nat ->Prop}{g N C B D R gd gen id mp bk q:Nat}{lg:Option Addr}{bad:Int}{f f0:Int ->Option ByteArray}(e0:Nat)(k i:Nat)(now:Int)(nm:ByteArray)(A:Option Addr)(n c:Nat)(B':Option Addr)(c2:Nat)(E:Option Addr)(en ec:Nat)(ts:List Ti)(fl:List Int)(ms:List Em)(rs:List (List Rc))(w:World)(hX:Bo w g (Jdm N C B D R ⟨gd,0,none⟩ gen id mp bk lg bad))(hD:DsAt w F gd N q f)(hL:Jd3 N C B D R)(hC:Jgz w G k i now nm A n c B' c2 E en ec ts fl ms)(hrl:rs.length=ms.length)(hs:∀j (h1:j<ms.length) (h2:j<rs.length),SegR f0 D N ms[j].e rs[j])(hsf:∀j (h1:j<ms.length) (h2:j<rs.length),j<e0 ->SegR f D N ms[j].e rs[j])(he0:e0<=ms.length)(hsx:∀h:e0<ms.length,SegX f ms[e0].e):
  Cs 132 #[g,.agg (Ja1 k i now nm A n c B' c2 E en ec)] w fun e w'=>(e0<ms.length/\e= .returned (.tuple #[(),(28:Int)])/\Below w.heap.size w w')\/(e0=ms.length/\∃P pc ps,e= .returned (.tuple #[.slice P en pc,(0:Int)])/\ps.map Pm.em=ms/\ps.map Pm.l=rs/\SrS w w' P en pc ps):=by
 have hN:=hL.n;have r:=hL.bd;have Hw:Below w.heap.size w (w.alloc (.cells (Ja1 k i now nm A n c B' c2 E en ec) 207)):=(qaa _ w).alloc (qab _) _;have b0:=Bx.new w 207 (Ja1 k i now nm A n c B' c2 E en ec);have HX:=zI hX;have HD:=zI hD;have Hx:=zI hC.hes;have Ko:=zI hC.hok;have HI:=zI hC.hi;have KO:=zI hC.hen;have M:=zI hC.hes.len;have KP:en<=90:=hC.hen;have Hy:=zI hrl;have Kp:=zI hs;have Kq:=zI hsf;have Kr:=zI hsx;have KQ:e0<=en:=by rw[<- hC.hes.len];exact he0
 have Ks:=zI hN;have Kt:=zI r;have Hz:=zI Hw;have x11:=b0.at_ 11 (v:= .slice E en ec) rfl;clear hX hD hC hrl hs hsf hsx hL hN r Hw b0;go_enter Tryz.func132,Tryz.ntmps132;go_wp2_with fail
 obtain⟨w1,Hk⟩:=exE (w.alloc (.cells (Ja1 k i now nm A n c B' c2 E en ec) 207));rw[<- Hk] at Hz;have H0:w.alloc (.cells #[.int .u64 (k:Int),.int .u64 (i:Int),(now:Int),nm,.slice A n c,.slice B' n c2,ByteArray.empty,(),(),(0:Int),(0:Int),.slice E en ec] 207)=w1:=Hk.symm;rw[H0];have Ku:=zI (show SrS w w1 none 0 0 [] from⟨qaz _ _ _ _,fun p hp=>by simp at hp,Hz.out⟩);clear H0 Hk x11;go_loopw [6,17] (fun o j wr=>∃ (h:Nat) (P:Option Addr) (pc:Nat) (ps:List Pm),h<=e0/\j= .int .i64 (h:Int)/\o= .slice P h pc/\ps.map Pm.em=ms.take h/\ps.map Pm.l=rs.take h/\SrS w wr P h pc ps) (fun _ j _=>en - (intOf j).toNat)
 case atStart=>exact⟨0,none,0,[],qaq _,rfl,rfl,by simp,by simp,Ku.out⟩
 case round =>
  obtain⟨h,P,pc,ps,hh,rfl,rfl,hm,hl,hS⟩:=hrel;by_cases H9:h<en
  · have K :h<ms.length:=by rw[M.out];exact H9
    have K2:h<rs.length:=by rw[Hy.out];exact K
    obtain⟨b2,o2,Kv,KR,b⟩:=(Hx.out.below hS.bel).get K;have t:=zI (Kp.out h K K2);have Hg:=zI (show h≠e0 ->SegR f D N (ms[h]'K).e (rs[h]'K2) from fun hh=>Kq.out h K K2 (by omega));have Hh:=zI (show h=e0 ->SegX f (ms[h]'K).e from fun hh=>by subst hh;exact Kr.out K);have Hl:=zI (((Hx.out.below hS.bel).row _ (qan K)).1);have a:=zI (Ko.out _ (qan K));have Hm:=zI (show ms.take (h+1)=ms.take h++[ms[h]] from qam K);have Hn:=zI (show rs.take (h+1)=rs.take h++[rs[h]] from qam K2);generalize ms[h]'K=x at*;generalize rs[h]'K2=rl at*;obtain⟨⟨eid,et,es,bl⟩,xA,xc⟩:=x;dsimp only at t Hl a Hg Hh;obtain⟨m,L⟩:=exE bl.length;have p0:wr.cell? ⟨b2,o2+h*6,none⟩=some (.int .u64 (eid:Int)):=b.c0;have p1:wr.cell? ⟨b2,o2+h*6+1,none⟩=some (.int .i64 (et:Int)):=b.c1;have p2:wr.cell? ⟨b2,o2+h*6+2,none⟩=some (.int .i64 (es:Int)):=b.c2;have p3:wr.cell? ⟨b2,o2+h*6+3,none⟩=some (.int .i64 0):=b.c3;have p4:wr.cell? ⟨b2,o2+h*6+4,none⟩=some (.int .i64 (m:Int)):=by rw[L];exact b.c4
    have p5:wr.cell? ⟨b2,o2+h*6+5,none⟩=some (.slice xA m xc):=by rw[L];exact b.c5
    subst Kv;obtain⟨a5,rfl⟩:=J5r Hl.out (by have:=a.out.len;exact this.1);obtain⟨gb,Ho⟩:=exE wr.heap.size;obtain⟨wb,Hb⟩:=exE (wr.alloc (.cells #[.int .u64 (eid:Int),(et:Int),(es:Int),(0:Int),(m:Int),.slice (adr a5) m xc] 312));have Hc:=Bx.new wr 312 #[.int .u64 (eid:Int),(et:Int),(es:Int),(0:Int),(m:Int),.slice (adr a5) m xc];have Hd:=(qaa wr.heap.size wr).alloc (qab _) (.cells #[.int .u64 (eid:Int),(et:Int),(es:Int),(0:Int),(m:Int),.slice (adr a5) m xc] 312);rw[<- Hb,<- Ho] at Hc;rw[<- Hb] at Hd;have Ka:=zI Hc;have Kw:=zI Hb;have Kx:=zI Ho;have V:=zI L;have Hp:=zI (hS.below Hd);have Hq:=zI (Hl.out.below Hd);have t5:=Hc.at_ 5 (v:= .slice (adr a5) m xc) rfl;have Ky:=zI hm;have Kz:=zI hl;have KS:m<=4096:=by rw[L];have:=a.out.len;exact this.2
    clear b Ho Hb Hc Hd L hm hl hS;go_upto_region 5 with fail
    rw[<- Kw.out,<- Kx.out];clear p0 p1 p2 p3 p4 p5;go_wp2_with fail
    go_loopw [24] (fun j wq=>∃p:Nat,p<=m/\j= .int .i64 (p:Int)/\wq=wb) (fun j _=>m - (intOf j).toNat)
    case atStart=>exact⟨0,qaq _,rfl,rfl⟩
    case round=>
     obtain⟨p,hp,rfl,Kb⟩:=hrel;rw[Kb];clear Kb;have U:=HX.out.below Hp.out.bel;have h5:=Kt.out;by_cases KC:p<m
     · have K3:p<bl.length:=by rw[<- V.out];exact KC
       obtain⟨b5,o5,e5,KD,KT⟩:=Hq.out.get K3;have hz:=t.out.bl _ (qan K3);generalize bl[p]'K3=z at*;have x0:=U.at_ 0 (v:= (N:Int)) rfl;have x5:=U.at_ 5 (v:= (D:Int)) rfl;have d1:decide (z<(D:Int))=false:=qae (by have:=hz.1;omega);have d2:decide ((N:Int)<=z)=false:=qae (by have:=hz.2;omega);rw[e5];clear U h5 KD hz;go_wp2_with fail
       go_roundw
       case rel=>exact⟨p+1,by omega,by go_num,trivial⟩
       case measure=>simp[intOf];omega
     · have r:=(qaa wb.heap.size wb).drew
       have KE:=Ks.out;have Kc:=zI (((HD.out.below Hp.out.bel).below r).sblocks (adr a5) bl.length xc bl (Hq.out.below r) (fun z hz=>by have:=t.out.bl z hz;omega) (by have:=a.out.len;dsimp only at this;omega));rw[<- V.out] at Kc;have x7:=U.at_ 7 (v:= gd) rfl;have x7':=(U.below r).at_ 7 (v:= gd) rfl;have t5':=(Ka.out.below r).at_ 5 (v:= .slice (adr a5) m xc) rfl;clear U h5 r KE;go_upto_region 11 with fail
       go_cut [11,12] (fun s11 s12 wx=>∃A6 c6,s11= .slice A6 m c6/\s12= .int .i64 0/\wx.ownsRow wb.heap.size 9 1 (.slice A6 m c6) m (bksL f bl)/\Below wb.heap.size wb wx)
       case first=>
        go_region_with (first
         | (go_at_call 212
            refine Kc.out.mono ?_;rintro e w6 ⟨vv,rfl,Z,Y⟩;obtain⟨A6,c6,rfl,_⟩:=Jao Z))
        all_goals (go_split_ands;go_wp2_with fail;go_meet;exact⟨A6,c6,rfl,rfl,by simpa using Z,(qaa wb.heap.size wb).drew.trans (by simpa using Y)⟩)
       case rest=>
        obtain⟨A6,c6,rfl,rfl,Z,Y⟩:=hcut;have y:=Ka.out.below Y;have Kd:=zI y;have Hr:=zI (Hp.out.below Y);have KU:=zI (Hq.out.below Y);by_cases hh:h=e0
        · obtain⟨l9,p9,M9,R9,fd9,ss9,T,J⟩:=Hh.out hh
          dsimp only at T J
          have I:Strs wc A6 m ss9:=by
           obtain⟨_,_,e6,H⟩:=Jao Z;cases e6
           rw[J] at H;refine⟨H,by rw[T.hlen,V.out],by unfold maxLen;omega,fun s hs=> ?_⟩;obtain⟨q9,KG,rfl⟩:=qb5 hs;rw[(T.size KG)];unfold maxLen;omega
          rw[<- V.out] at T;have Hs:=zI (Jxj (d:=c6) wc T I);have g0:=y.at_ 0 (v:= .int .u64 (eid:Int)) rfl;have g1:=y.at_ 1 (v:= (et:Int)) rfl;have g2:=y.at_ 2 (v:= (es:Int)) rfl;have Ke:=zI Hr.out.bel;clear y Z Y I T J;go_wp2_with fail
          refine Hs.out.mono ?_;rintro e w7 ⟨rfl,S⟩;have KH:=zI (Ke.out.trans (S.mono Ke.out.size));clear S;go_wp2_with fail
          go_ret2;exact .inl ⟨by rw[M.out,<- hh];exact H9,rfl,KH.out⟩
        · have I:Strs wc A6 m (sgL eid et es rl):=by
           obtain⟨_,_,e6,H⟩:=Jao Z;cases e6
           have h1:=(Hg.out hh).strs;dsimp only at h1;rw[h1] at H;refine⟨H,by rw[Jcz,<- t.out.len,V.out],by unfold maxLen;omega,fun s hs=>by rw[Ju4 t.out.fine s hs];unfold maxLen;omega⟩
          have Ht:=HI.out;have hJ:=a.out.id;have Hi:=a.out.tier;have Hj:=a.out.shard;have Hs:=zI (J0m eid et es A6 m c6 rl wc hJ.1 (by have:=hJ.2;dsimp only at this;omega) (by dsimp only at Hi;omega) (by dsimp only at Hj;omega) t.out.fine t.out.lt t.out.n.2 (by intro e;have:=t.out.n.1;rw[e] at this;simp at this) I);have g0:=y.at_ 0 (v:= .int .u64 (eid:Int)) rfl;have g1:=y.at_ 1 (v:= (et:Int)) rfl;have g2:=y.at_ 2 (v:= (es:Int)) rfl;clear y Z Y I Ht hJ Hi Hj;go_wp2_with fail
          refine Hs.out.mono ?_;rintro e w7 ⟨v7,rfl,He,S⟩;obtain⟨a7,c7,rfl⟩:=Jsw He;obtain⟨rn,Ha⟩:=exE rl.length;rw[<- Ha] at He ⊢;have KV:=zI Ha;obtain⟨q7,O⟩:∃q7:Pm,q7=⟨⟨eid,et,es,bl⟩,rl,a5,xc,a7,c7⟩:=⟨_,rfl⟩;have Kf:=zI O
          have Hu:q7.cells=[.int .u64 (eid:Int),.int .i64 (et:Int),.int .i64 (es:Int),.int .i64 0,.int .i64 (m:Int),.slice (adr a5) m xc,.slice (adr a7) rn c7]:=by
           rw[O];unfold Pm.cells Pm.raw PRaw.cells;dsimp only;rw[V.out,Ha]
          have KI:=zI Hu;have Hv:=(qaa w7.heap.size w7).alloc (qab _) (.cells q7.cells.toArray 316);have Hf:=zI ((Hr.out.below S).below Hv)
          have Kg:=zI (show(w7.alloc (.cells q7.cells.toArray 316)).ownsRow w.heap.size 142 7 (.slice (adr q7.B) q7.l.length q7.d) q7.l.length (q7.l.flatMap Rc.cells) from by
           have h1:=Jde (Jaf He Hv) (show w.heap.size<=wc.heap.size from Hr.out.bel.size);have e1:q7.B=a7:=(by rw[O]);have e2:q7.l=rl:=(by rw[O]);have e3:q7.d=c7:=(by rw[O]);rw[e1,e2,e3,<- Ha];exact h1)
          have Kh:=zI (Sl.new w7 316 w7.heap.size q7.cells q7.cells.toArray rfl rfl);have Ki:=zI (show ∀u∈q7.cells,u.oneCell'=true from by have:=J0d [q7];simpa using this);have KJ:=zI (show h+1<=1000000 from by omega);have Kj:=zI (show w.heap.size<=(w7.alloc (.cells q7.cells.toArray 316)).heap.size from Hf.out.bel.size);have Kk:=zI (show q7.cells.length=1*7 from rfl);have W:=Kd.out.below S;have y0:=W.at_ 0 (v:= .int .u64 (eid:Int)) rfl;have y1:=W.at_ 1 (v:= (et:Int)) rfl;have y2:=W.at_ 2 (v:= (es:Int)) rfl;have y3:=W.at_ 3 (v:= (0:Int)) rfl;have y4:=W.at_ 4 (v:= (m:Int)) rfl;have y5:=W.at_ 5 (v:= .slice (adr a5) m xc) rfl;rw[Hu] at Hf Kh Ki Kj Kk Kg;clear g0 g1 g2 Ha O Hu Hv W He S;go_wp2_with (at_builtin;refine Jq4 rfl _ _ rfl Hf.out.row rfl (some ⟨w7.heap.size,0,none⟩) 1 1 _ rfl Kk.out Kh.out Ki.out KJ.out Kj.out ?_;intro E' ec' w9 Kl Km KK)
          have KL:=zI (Hf.out.put q7 Kg.out Km (by rw[KI.out];exact Kl));have KM:=zI (show(ps++[q7]).map Pm.em=ms.take (h+1) from by rw[qbg,Ky.out,Hm.out,Kf.out];rfl);have Kn:=zI (show(ps++[q7]).map Pm.l=rs.take (h+1) from by rw[qbg,Kz.out,Hn.out,Kf.out];rfl);clear Kl Km KK y0 y1 y2 y3 y4 y5;go_wp2_with fail
          go_roundw
          case rel=>exact⟨h+1,E',ec',ps++[q7],by omega,by go_num,rfl,KM.out,Kn.out,KL.out⟩
          case measure=>simp[intOf];omega
  · have KN:h=en:=by omega
    subst KN;have Hm:=zI (show ms.take h=ms from qap (by rw[M.out];exact qab _));have Hn:=zI (show rs.take h=rs from qap (by rw[Hy.out,M.out];exact qab _));rw[Hm.out] at hm;rw[Hn.out] at hl;have HM:=zI hm;have HL:=zI hl;have HS:=zI hS;clear hm hl hS;go_wp2_with fail
    go_ret2;exact .inr ⟨by rw[M.out];omega,P,pc,ps,rfl,HM.out,HL.out,HS.out⟩
