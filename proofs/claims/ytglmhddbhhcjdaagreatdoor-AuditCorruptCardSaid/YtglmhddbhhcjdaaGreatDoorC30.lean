/- Laws that the walk of the last text wants. -/
import Derived.Test.YtglmhddbhhcjdaaGreatDoorC28
import Derived.Test.YtglmhddbhhcjdaaGreatDoorC25
set_option maxRecDepth 100000
set_option linter.unusedSimpArgs false
set_option maxHeartbeats 4000000
namespace Go.Proofs.YtglmhddbhhcjdaaGreatDoor
open Go.RowKit
structure Wm where
 t:Nat
 s:Nat
 l:List Rc
 B:Option (Nat×Nat)
 d:Nat
def Wm.raw (x:Wm):PRaw:=⟨0,(x.t:Int),(x.s:Int),0,(sgN x.l.length:Int),none,0,0,x.B,x.l.length,x.d⟩
def Wm.cells (x:Wm):List Value:=x.raw.cells
abbrev Wv:=Nat×Nat×List Rc
def Wm.v (x:Wm):Wv:=(x.t,x.s,x.l)
def Jd5 (i n:Nat) (l:List Rc) (k:Nat):List Wv:=(List.range k).filterMap fun q=>if Ja4 n l q=[] then none else some (i,q,Ja4 n l q)
theorem Jew(i n:Nat)(l:List Rc)(k:Nat):Jd5 i n l (k+1)=Jd5 i n l k++(if Ja4 n l k=[] then [] else [(i,k,Ja4 n l k)]):=by
 unfold Jd5;rw[qbw,List.filterMap_append]
 congr 1
 by_cases h:Ja4 n l k=[]<;>simp[h]
def Jww (t:Tv) (i:Nat):List Wv:=Jd5 i (t.r.sh i).toNat (t.tab i) (t.r.sh i).toNat
def Jak (t:Tv) (k:Nat):List Wv:=(List.range k).flatMap (Jww t)
theorem Jd6(t:Tv)(k:Nat):Jak t (k+1)=Jak t k++Jww t k:=by unfold Jak;rw[qbw,qav];simp
structure WdS (w wr:World) (go:Nat) (A:Option Addr) (c:Nat) (ws:List Wm):Prop where
 box:Bx wr go 210 #[.slice A ws.length c]
 own:wr.ownsRow w.heap.size 316 7 (.slice A ws.length c) ws.length (ws.flatMap Wm.cells)
 row:∀x∈ws,wr.ownsRow w.heap.size 142 7 (.slice (adr x.B) x.l.length x.d) x.l.length (x.l.flatMap Rc.cells)
 chg:Chg (fun b=>b=go) w wr
 lt:go<w.heap.size
section
variable {w wr w1 w':World} {go:Nat} {A A':Option Addr} {c c':Nat} {ws:List Wm}
theorem WdS.below(h:WdS w wr go A c ws)(hb:Below wr.heap.size wr w'):WdS w w' go A c ws:=⟨h.box.below hb,Jaf h.own hb,fun x hx=>Jaf (h.row x hx) hb,h.chg.then_below hb,h.lt⟩
theorem WdS.snoc(h:WdS w wr go A c ws)(x:Wm)(hx:wr.ownsRow w.heap.size 142 7 (.slice (adr x.B) x.l.length x.d) x.l.length (x.l.flatMap Rc.cells))(hg:wr.grownBy w1 (Value.slice A ws.length c).ownBlock)(ho:w1.ownsRow w.heap.size 316 7 (.slice A' (ws.length+1) c') (ws.length+1) (ws.flatMap Wm.cells++x.cells)):
  WdS w (w1.setCell ⟨go,0,none⟩ (.slice A' (ws.length+1) c')) go A' c' (ws++[x]):=by
 have v:=h.box.grown hg (h.box.not_row h.own (by decide));have u:=Jam w1 go 0 (.slice A' (ws.length+1) c')
 have key:∀y:Wm,wr.ownsRow w.heap.size 142 7 (.slice (adr y.B) y.l.length y.d) y.l.length (y.l.flatMap Rc.cells) ->(w1.setCell ⟨go,0,none⟩ (.slice A' (ws.length+1) c')).ownsRow w.heap.size 142 7 (.slice (adr y.B) y.l.length y.d) y.l.length (y.l.flatMap Rc.cells):=fun y z=>by
  have t:=z.kept hg (Jhq z h.own (by decide));exact t.kept u (.inr fun e=>(v.not_row t (by decide)) e.symm)
 refine⟨?_,?_,fun y z=> ?_,?_,h.lt⟩
 · have:=v.set 0 (.slice A' (ws.length+1) c')
   rw[qad];exact this
 · rw[qad,qav]
   simpa using ho.kept u (.inr fun e=>(v.not_row ho (by decide)) e.symm)
 · rcases qbe.1 z with z | z
   · exact key y (h.row y z)
   · rw[qa1.1 z];exact key x hx
 · exact(h.chg.trans (Chg.of_grown (F:=fun b=>(Value.slice A ws.length c).ownBlock=some b) hg (fun _ e=>e)) (fun b e=> .inr (h.own.lt b e).1)).trans (Chg.of_grown (F:=fun b=>b=go) u (fun b e=>by cases e;rfl)) (fun b e=> .inl e)
end
structure SpK (w wr:World) (gO n:Nat) (cell:Nat ->Value) (ls:Nat ->List Rc):Prop where
 box:Bx wr gO 43 ((List.range n).map cell).toArray
 row:∀k,k<n ->wr.ownsRow w.heap.size 142 7 (cell k) (ls k).length ((ls k).flatMap Rc.cells)
section
variable {w w0 wr w1 w':World} {go gO n:Nat} {A A':Option Addr} {c c':Nat} {ws:List Wm} {cell:Nat ->Value} {ls:Nat ->List Rc}
theorem SpK.below(h:SpK w wr gO n cell ls)(hb:Below wr.heap.size wr w'):SpK w w' gO n cell ls:=⟨h.box.below hb,fun k hk=>Jaf (h.row k hk) hb⟩
theorem SpK.of(h:SplW w wr gO n cell ls)(hw:w0.heap.size<=w.heap.size):SpK w0 wr gO n cell ls:=⟨h.box,fun k hk=>Jde (h.row k hk) hw⟩
theorem SpK.laid(h:SpK w0 wr gO n cell ls)(hW:WdS w wr go A c ws)(hg:wr.grownBy w1 (Value.slice A ws.length c).ownBlock)(v:Value):SpK w0 (w1.setCell ⟨go,0,none⟩ v) gO n cell ls:=by
 have x:=Jam w1 go 0 v;have y:=hW.box.grown hg (hW.box.not_row hW.own (by decide));refine⟨(h.box.grown hg (h.box.not_row hW.own (by decide))).other (p:=⟨go,0,none⟩) (fun e=> ?_) v,fun k hk=> ?_⟩
 · have z:=h.box.blk
   have u:=hW.box.blk;rw[show gO=go from e,u] at z;injection z with z;injection z with _ z
   revert z;decide
 · have z:=(h.row k hk).kept hg (Jhq (h.row k hk) hW.own (by decide))
   exact z.kept x (.inr fun e=>(y.not_row z (by decide)) e.symm)
end
theorem Jq1(i n:Nat)(l:List Rc)(k:Nat):(Jd5 i n l k).length<=k:=by
 induction k with
 | zero=>simp[Jd5]
 | succ k ih=>
   rw[Jew,qad];split<;>simp<;>omega
theorem Jm4(t:Tv)(k:Nat)(h:∀j,j<k ->(t.r.sh j).toNat<=8):(Jak t k).length<=8*k:=by
 induction k with
 | zero=>simp[Jak]
 | succ k ih=>
   rw[Jd6,qad];have z:=ih (fun j hj=>h j (by omega));have y:=Jq1 k (t.r.sh k).toNat (t.tab k) (t.r.sh k).toNat;have x:=h k (by omega);unfold Jww;omega
structure Tv.Want (t:Tv):Prop where
 n:1<=t.tabs.length/\t.tabs.length<=5
 sh:∀i,i<t.tabs.length ->1<=t.r.sh i/\t.r.sh i<=8
 few:∀i,i<t.tabs.length ->(t.tab i).length<=900000
 ok:∀i,i<t.tabs.length ->∀r∈t.tab i,r.Ok
theorem J8f{F:Nat ->Prop}{gt go:Nat}{t:Tv}(A:Option Addr)(n c:Nat)(w:World)(h:Jag w F gt t)(hgo: ¬ F go)(hT:Tis w A n t.r.ts)(hA:AIn F A)(hn:n=t.tabs.length)(hW:t.Want)(hx:Bx w go 210 #[()]):
  Cs 308 #[(0:Int),.agg #[t.r.nm,.slice A n c],.func (Fn.func 311) #[gt] #[],go] w fun e w'=>e= .returned (.tuple #[])/\∃A' c' ws,WdS w w' go A' c' ws/\ws.map Wm.v=Jak t n:=by
 have Ht:=zI h;have Hu:=zI hT;have Hv:=zI hA;have HN:=zI hn;have d:=zI hW;have Hw:=zI hT.len;have Kr:1<=n/\n<=5:=by rw[hn];exact hW.n
 have z:=(qaa w.heap.size w).alloc (qab _) (.cells #[t.r.nm,.slice A n c] 101);have He:=zI (show WdS w (w.alloc (.cells #[t.r.nm,.slice A n c] 101)) go none 0 [] from⟨hx.below z,qaz _ _ _ _,fun x hx=>by simp at hx,Chg.of_below z,hx.lt⟩);clear h hT hA hn hW z hx;go_enter Tryz.func308,Tryz.ntmps308;go_wp2_with fail
 obtain⟨w1,Hf⟩:=exE (w.alloc (.cells #[t.r.nm,.slice A n c] 101));rw[<- Hf] at He ⊢;clear Hf;go_loopw [15] (fun j wr=>∃ (i:Nat) (A':Option Addr) (c':Nat) (ws:List Wm),i<=n/\j= .int .i64 (i:Int)/\WdS w wr go A' c' ws/\ws.map Wm.v=Jak t i) (fun j _=>n - (intOf j).toNat)
 case atStart=>exact⟨0,none,0,[],qaq _,rfl,He.out,rfl⟩
 case round=>
  obtain⟨i,A',c',ws,hi,rfl,o,p⟩:=hrel;by_cases Hg:i<n
  · have K:i<t.r.ts.length:=by rw[Hw.out];exact Hg
    have Z:i<t.tabs.length:=by rw[<- HN.out];exact Hg
    obtain⟨b,off,rfl,Hx,T0,T1,T2,T3⟩:=(Hu.out.chg o.chg (fun a e h=>hgo (by rw[<- h];exact Hv.out a e))).get K;have N:=zI (Rch.sh_at K);have M:=d.out.sh i Z;have Y:=zI (d.out.few i Z);have Hy:=zI (d.out.ok i Z);have L:=zI (Jd6 t i);have Hz:=zI (Jm4 t i (fun j hj=>by have:=d.out.sh j (by omega);omega));unfold Jww at L;have Hh:=Ht.out.chg o.chg (fun b hb e=>hgo (by rw[<- e];exact hb));generalize (t.r.ts[i]'K)=tt at*;obtain⟨n2,J⟩:∃n2:Nat,(n2:Int)=tt.sh:=⟨tt.sh.toNat,by rw[N.out] at M;omega⟩;have H0:1<=n2/\n2<=8:=by rw[N.out] at M;omega
    rw[show(t.r.sh i).toNat=n2 from by rw[N.out,<- J];simp] at L;rw[<- J] at T3;have y:=(qaa wr.heap.size wr).alloc (qab _) (.cells #[tt.nm,(tt.ev:Int),(tt.kp:Int),(n2:Int)] 167);have W:=Bx.new wr 167 #[tt.nm,(tt.ev:Int),(tt.kp:Int),(n2:Int)];obtain⟨gb,I⟩:=exE wr.heap.size;obtain⟨w5,H⟩:=exE (wr.alloc (.cells #[tt.nm,(tt.ev:Int),(tt.kp:Int),(n2:Int)] 167));rw[<- H] at y W;rw[<- I] at W;have V:=(qaa w5.heap.size w5).drew;have Hi:=zI (J4r w5.drew ((Hh.below y).below V) i Z (by have:=Y.out;omega));have G:=zI ((o.below y).below V);have U:=zI (W.below V);have Hj:=zI I;have Hk:=zI H;have HV:=zI p;generalize t.tab i=l at*;clear o p Hh y W I H V M J;go_upto_region 4 with fail
    rw[<- Hk.out,<- Hj.out];clear T0 T1 T2 T3;have Hl:=U.out.at_ 3 (v:= (n2:Int)) rfl
    go_region_held3 (fun w'=>w'.cell? ⟨gb,3,none⟩=some (.int .i64 (n2:Int)))
     (first
       | with_reducible exact Hl
       | with_reducible exact Hm
       | with_reducible exact Hn)
     (first
       | (go_at_call 311
          refine Hi.out.mono ?_;rintro e w6 ⟨v6,rfl,Ho,m⟩;obtain⟨A6,c6,rfl,Hp⟩:=Jsd Ho Hy.out (by have:=Y.out;unfold maxLen;omega);have Hm:=(U.out.below m).at_ 3 (v:= (n2:Int)) rfl)
       | (go_at_call 309
          refine(J42 A6 l.length c6 n2 l w6 Hp H0 Y.out).mono ?_;rintro e w7 ⟨gO,cell,rfl,T⟩;have Hn:=((U.out.below m).below T.bel).at_ 3 (v:= (n2:Int)) rfl))
    go_split_ands;have H9:=zI ((G.out.below m).below T.bel);have Ka:=zI (SpK.of T (show w.heap.size<=w6.heap.size from qax G.out.chg.size m.size));have Kb:=zI HV.out;clear Ho m Hp T Hl Hm Hn U G Hi;go_wp2_with fail
    obtain⟨wo,Hq⟩:=exE wr;rw[<- Hq] at Hj Hk Hx;clear Hq;go_loopw [27] (fun j wq=>∃ (k:Nat) (A'':Option Addr) (c'':Nat) (ws':List Wm),k<=n2/\j= .int .i64 (k:Int)/\WdS w wq go A'' c'' ws'/\SpK w wq gO n2 cell (Ja4 n2 l)/\ws'.map Wm.v=Jak t i++Jd5 i n2 l k) (fun j _=>n2 - (intOf j).toNat)
    case atStart=>exact⟨0,A',c',ws,qaq _,rfl,H9.out,Ka.out,by rw[Kb.out];simp[Jd5]⟩
    case round=>
     obtain⟨k,A'',c'',ws',hk,rfl,o,hK,p⟩:=hrel;by_cases g:k<n2
     · have ck:=hK.box.at_ k (v:=cell k) (by simp[g])
       obtain⟨Bk,dk,S⟩:=Jsw (hK.row k g);rw[S] at ck;have E:=zI (Jew i n2 l k)
       have Kc:=zI (show ws'.length<=100 from by
        have h1:=congrArg List.length p;rw[qa4,qad] at h1;have h2:=Jq1 i n2 l k;have h3:=Hz.out;omega)
       have D:=zI (Jll n2 l k);have C:=zI (show wr.ownsRow w.heap.size 142 7 (.slice (adr Bk) (Ja4 n2 l k).length dk) (Ja4 n2 l k).length ((Ja4 n2 l k).flatMap Rc.cells) from by rw[<- S];exact hK.row k g);obtain⟨pl,B⟩:=exE (Ja4 n2 l k);rw[<- B] at ck E D C;have Ks:=zI B;have Kt:=zI S;obtain⟨len,f⟩:=exE pl.length;rw[<- f] at ck C D;have R:=zI f;have HS:=zI o;have HK:=zI hK;have Hr:=zI p;have Ku:len<=900000:=by have:=D.out;have:=Y.out;omega
       clear o hK p B f S;by_cases hz:len=0
       · have HE:=zI (show Jak t i++Jd5 i n2 l (k+1)=Jak t i++Jd5 i n2 l k from by
          rw[E.out,qa0 (qa5 (by rw[<- R.out];exact hz)),qbp])
         have d0:decide ((0:Int)<(len:Int))=false:=qae (by omega);have d1:decide (0<len)=false:=qae (by omega);go_wp2_with fail
         go_roundw
         case rel=>exact⟨k+1,A'',c'',ws',by omega,by go_num,HS.out,HK.out,by rw[HE.out];exact Hr.out⟩
         case measure=>simp[intOf];omega
       · have HE:=zI (show Jak t i++Jd5 i n2 l (k+1)=(Jak t i++Jd5 i n2 l k)++[(i,k,pl)] from by
          rw[E.out,qay (fun e=>hz (by rw[R.out,e];rfl)),qas])
         have d0:decide ((0:Int)<(len:Int))=true:=qaj (by omega);have d1:decide (0<len)=true:=qaj (by omega);have Kd:=zI (Jef len wr (by omega));have z:=(qaa wr.heap.size wr).alloc (qab _) (.cells #[.int .u64 0,(i:Int),(k:Int),(0:Int),(sgN len:Int),()] 312);have y:=Bx.new wr 312 #[.int .u64 0,(i:Int),(k:Int),(0:Int),(sgN len:Int),()];obtain⟨ge,hJ⟩:=exE wr.heap.size;obtain⟨w8,Ha⟩:=exE (wr.alloc (.cells #[.int .u64 0,(i:Int),(k:Int),(0:Int),(sgN len:Int),()] 312));rw[<- Ha] at z y;rw[<- hJ] at y;have P:=(qaa w8.heap.size w8).alloc (qab _) (.cells #[.int .u64 0,(i:Int),(k:Int),(0:Int),(sgN len:Int),(),.slice (adr Bk) len dk] 316);have s:=zI ((HS.out.below z).below P);have Ke:=zI ((HK.out.below z).below P);have Kf:=zI (Jaf (Jaf C.out z) P);have q:=zI y;have y0:=(HS.out.below z).box.at_ 0 (v:= .slice A'' ws'.length c'') rfl;have Kg:=zI (Sl.new w8 316 w8.heap.size [.int .u64 0,(i:Int),(k:Int),(0:Int),(sgN len:Int),(),.slice (adr Bk) len dk] #[.int .u64 0,(i:Int),(k:Int),(0:Int),(sgN len:Int),(),.slice (adr Bk) len dk] rfl rfl);have Kh:=zI (show ∀u∈([.int .u64 0,(i:Int),(k:Int),(0:Int),(sgN len:Int),(),.slice (adr Bk) len dk]:List Value),u.oneCell'=true from by intro u hu;simp at hu;rcases hu with rfl | rfl | rfl | rfl | rfl | rfl | rfl<;>rfl)
         have Ki:=zI (show ws'.length+1<=1000000 from by have:=Kc.out;omega);have Kj:=zI (show w.heap.size<=(w8.alloc (.cells #[.int .u64 0,(i:Int),(k:Int),(0:Int),(sgN len:Int),(),.slice (adr Bk) len dk] 316)).heap.size from s.out.chg.size);have Kk:=zI hJ;have Kl:=zI Ha;clear z y hJ Ha P;go_wp2_with fail
         refine Kd.out.mono ?_;rintro e wz ⟨rfl,hw⟩;subst hw;have Km:=zI (show Wm.cells ⟨i,k,pl,Bk,dk⟩=[.int .u64 0,.int .i64 (i:Int),.int .i64 (k:Int),.int .i64 0,.int .i64 (sgN len:Int),.slice none 0 0,.slice (adr Bk) len dk] from by unfold Wm.cells Wm.raw;dsimp only;rw[<- R.out];rfl);go_upto_region 9 with fail
         rw[<- Kl.out,<- Kk.out];have e0:=q.out.at_ 0 rfl;have e1:=q.out.at_ 1 rfl;have e2:=q.out.at_ 2 rfl;have e3:=q.out.at_ 3 rfl;have e4:=q.out.at_ 4 rfl;have e5:=q.out.at_ 5 rfl;go_wp2_with (at_builtin;refine J3m rfl _ _ rfl s.out.own rfl (some ⟨w8.heap.size,0,none⟩) 1 1 [.int .u64 0,(i:Int),(k:Int),(0:Int),(sgN len:Int),(),.slice (adr Bk) len dk] rfl rfl Kg.out Kh.out Ki.out Kj.out ?_;intro A9 c9 w9 Hs O;have Hb:=s.out.box.grown O (s.out.box.not_row s.out.own (by decide));have z0:=Hb.at_ 0 rfl;have zf:=Hb.free 0)
         have Kn:=zI (s.out.snoc ⟨i,k,pl,Bk,dk⟩ (by dsimp only;rw[<- R.out];exact Kf.out) O (by rw[Km.out];exact Hs));have Ko:=zI (Ke.out.laid s.out O (.slice A9 (ws'.length+1) c9));clear Hs O Hb z0 zf e0 e1 e2 e3 e4 e5 y0;go_wp2_with fail
         go_roundw
         case rel=>exact⟨k+1,A9,c9,ws'++[⟨i,k,pl,Bk,dk⟩],by omega,by go_num,Kn.out,Ko.out,by rw[qbg,Hr.out,HE.out];rfl⟩
         case measure=>simp[intOf];omega
     · have Kp:k=n2:=by omega
       rw[Kp,<- L.out] at p;have Hc:=zI o;have Hd:=zI p;clear o hK p;go_wp2_with fail
       go_roundw
       case rel=>exact⟨i+1,A'',c'',ws',by omega,by go_num,Hc.out,Hd.out⟩
       case measure=>simp[intOf];omega
  · have Kq:i=n:=by omega
    rw[Kq] at p;have Hc:=zI o;have Hd:=zI p;clear o p;go_wp2_with fail
    go_end0
    exact⟨rfl,A',c',ws,Hc.out,Hd.out⟩
theorem J0u{F:Nat ->Prop}{g room:Nat}{t:Tv}(w:World)(h:StAt w F g room t)(hW:t.Want):
  Cs 245 #[g] w fun e w'=>∃ (A:Option Addr) (c:Nat) (ws:List Wm),e= .returned (.slice A ws.length c)/\w'.ownsRow w.heap.size 316 7 (.slice A ws.length c) ws.length (ws.flatMap Wm.cells)/\
   (∀x∈ws,w'.ownsRow w.heap.size 142 7 (.slice (adr x.B) x.l.length x.d) x.l.length (x.l.flatMap Rc.cells))/\ws.map Wm.v=Jak t t.tabs.length/\Below w.heap.size w w':=by
 have z:=(qaa w.heap.size w).alloc (qab _) (.cells #[()] 210);have s:=Bx.new w 210 #[()];have r:(w.alloc (.cells #[()] 210)).heap.size=w.heap.size+1:=by simp
 have I:=zI (Jgr _ (h.below z));have Y:=zI (fun W (hW:Below w.heap.size w W)=>Jhk W (h.below hW));have V:=zI hW;have q:=zI z;have U:=zI s;have T:=zI r;clear h z s r hW;go_enter Tryz.func245,Tryz.ntmps245;go_wp2_with fail
 refine I.out.mono ?_;rintro e w1 ⟨gt,rfl,y,u⟩;obtain⟨A,c,B,m,d,L,cl,ga,gm,a,S,H,G,p,R,P⟩:=y.ex;have o: ¬ made (w.alloc (.cells #[()] 210)) w1 w.heap.size:=fun hh=>by have:=hh.1;have:=T.out;omega
 obtain⟨n,Z⟩:=exE t.tabs.length;rw[<- Z] at a S;have x1:=a.at_ 1 rfl;have x2:=a.at_ 2 rfl;have O:=zI (J8f (go:=w.heap.size) A n c w1 y o S.ts p Z V.out (U.out.below u));have k:=zI (q.out.trans (u.mono q.out.size));have E:=zI Z;clear y a S p R P o u Z H G;go_wp2_with fail
 refine O.out.mono ?_;rintro e w2 ⟨rfl,A',c',ws,j,J⟩;have i:=k.out.size;have f:=zI (Chg.madeF k.out j.chg (fun b e=>by rw[e];exact qab _));have N:=zI (Y.out _ f.out);have y0:=j.box.at_ 0 (v:= .slice A' ws.length c') rfl;have M:=zI (Jde j.own i);have K:=zI (fun x hx=>Jde (j.row x hx) i);have D:=zI J;clear j J x1 x2;go_wp2_with fail
 refine N.out.mono ?_;rintro e w3 ⟨rfl,C⟩;subst C;go_wp2_with fail
 go_ret;exact⟨A',c',ws,rfl,M.out,K.out,by rw[D.out,E.out],f.out⟩
