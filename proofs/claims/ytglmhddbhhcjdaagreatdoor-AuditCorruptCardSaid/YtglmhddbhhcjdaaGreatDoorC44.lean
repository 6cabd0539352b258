/- Laws that the walk of the last text wants. -/
import Derived.Test.YtglmhddbhhcjdaaGreatDoorC43
set_option maxRecDepth 100000
set_option linter.unusedSimpArgs false
set_option maxHeartbeats 4000000
namespace Go.Proofs.YtglmhddbhhcjdaaGreatDoor
open Go.RowKit
def Jjl (t:Tv):Nat ->Nat
 | 0=>0
 | k+1=>Jjl t k+(t.tab k).length
def Tv.size (t:Tv):Nat:=Jjl t t.tabs.length
theorem Jrp{t:Tv}{M:Nat}(h:∀i,i<t.tabs.length ->(t.tab i).length<=M):∀k,k<=t.tabs.length ->Jjl t k<=k*M
 | 0,_=>by simp[Jjl]
 | k+1,hk=>by
   have z:=Jrp h k (by omega);have y:=h k (by omega);show Jjl t k+(t.tab k).length<=_;rw[Nat.succ_mul];omega
theorem J85{F:Nat ->Prop}{g:Nat}{t:Tv}(w:World)(h:Jag w F g t)(h1:1<=t.tabs.length)(hfew:∀i,i<t.tabs.length ->(t.tab i).length<=10000):
  Cs 33 #[g] w (RS w (t.size:Int)):=by
 have V:=h.few;have x:=fun k=>Jrp hfew k;obtain⟨b,off,cl,_,_,c4,_⟩:=h.focus 0 (by omega);have U:=zI (fun i a=>h.focus i a);have v:=zI (show t.size=Jjl t t.tabs.length from rfl);obtain⟨N,q⟩:=exE t.tabs.length;rw[<- q] at V h1 c4 x v;have Z:=zI q;have p:=zI x;rw[v.out];clear h hfew q x v;go_enter Tryz.func33,Tryz.ntmps33;go_wp2_with fail
 go_loopw [3,13] (fun s j wr=>∃i z:Nat,i<=N/\j= .int .i64 (i:Int)/\s= .int .i64 (z:Int)/\z=Jjl t i/\w=wr) (fun _ j _=>N - (intOf j).toNat)
 case atStart=>exact⟨0,0,qaq _,rfl,rfl,rfl,rfl⟩
 case round=>
  obtain⟨i,z,a,rfl,rfl,r,o⟩:=hrel;subst o;by_cases n:i<N
  · obtain⟨b2,off2,cl2,ga,gm,c42,_,Y,y,_,_⟩:=U.out i (by rw[<- Z.out];exact n)
    rw[<- Z.out] at c42;have l:=c4.symm.trans c42;cases l
    have u:=J27 y;obtain⟨m,f⟩:=exE ((t.tab i).length);rw[<- f] at u;have d:=zI u;have T:=p.out (i+1) (by omega);have W:=zI (show((z:Int)+(m:Int))=((z+m:Nat):Int)/\z+m=Jjl t (i+1) from⟨by omega,by rw[r,f];rfl⟩)
    have S:z+m<=11000000:=by
     have h1:=W.out.2;have:(i+1)*10000<=1001*10000:=Nat.mul_le_mul_right _ (by omega);omega
    clear y c42 f T r u;go_wp2_with fail
    refine d.out.mono ?_;rintro e w1 ⟨rfl,o⟩;subst o;go_wp2_with fail
    go_roundw
    case rel=>exact⟨i+1,z+m,by omega,by go_num,by go_num,W.out.2,trivial⟩
    case measure=>simp[intOf];omega
  · have c:i=N:=by omega
    subst c;have R:=zI r;clear r;go_wp2_with fail
    go_ret;exact⟨by rw[R.out];rfl,rfl⟩
theorem J2i{F:Nat ->Prop}{g room:Nat}{t:Tv}(w:World)(h:StAt w F g room t):Cs 137 #[g] w fun e w'=>e= .returned false/\w=w':=by
 obtain⟨gt,FT,z,_,_,_⟩:=h.ex;have s2:=z.at_ 2 (v:= .pointer none) rfl;clear h z;go_enter Tryz.func137,Tryz.ntmps137;go_wp2_with fail
 go_ret;exact⟨rfl,rfl⟩
abbrev repV (gen live n sz:Nat):Value:= .agg #[.int .u64 (gen:Int),(live:Int),(0:Int),(n:Int),(sz:Int),false]
theorem Jrq{FB FD FS:Nat ->Prop}{gx N C B D R gd gen id mp bk q nP gs room n c:Nat}{A:Option Addr}{lg:Option Addr}{bad:Int}{pf:Nat ->Nat ->Option PRaw}{us:List Int}{b:Option (List Int)}{f:Int ->Option ByteArray}{t:Tv}(w:World)(h:SvS w FB FD gx N C B D R gd gen id mp bk q nP lg bad pf us none b none f)(hS:StAt w FS gs room t)(hg:t.Good):
  Cs 70 #[gx,gs,.slice A n c] w (RB w (repV gen (b.getD []).length n t.size)):=by
 obtain⟨w1,x⟩:=exE (w.alloc (.cells #[.int .u64 0,(0:Int),(0:Int),(0:Int),(0:Int),false] 57));have d:Below w.heap.size w w1:=by rw[x];exact(qaa _ _).alloc (qab _) _
 have L:Hid (Bx w1 w.heap.size 57 #[.int .u64 0,(0:Int),(0:Int),(0:Int),(0:Int),false]):=zI (by rw[x];exact Bx.new _ _ _);have K:=zI x;have u:=zI d;have J:=zI (fun W (hW:Below w.heap.size w W)=>J82 (h.box.below hW));have I:=zI (fun W (hW:Below w.heap.size w W)=>Jls ⟨#[108,105,118,101]⟩ W (h.below hW) (by decide));have H:=zI (fun W (hW:Below w.heap.size w W)=>Jls ⟨#[109,111,118,101]⟩ W (h.below hW) (by decide));have G:=zI (fun W (hW:Below w.heap.size w W)=>Jgr W (hS.below hW));have F:=zI (fun W F' g' (hT:Jag W F' g' t)=>J85 W hT hg.n.1 hg.few);have E:=zI (fun W (hW:Below w.heap.size w W)=>J2i W (hS.below hW));have HL:=zI (J51 b ⟨#[108,105,118,101]⟩ rfl);have HM:=zI (show Led.heldV (Led.w3 none b none) (⟨#[109,111,118,101]⟩:ByteArray).data.toList=[] from Led.hM3 none b none);obtain⟨nl,s⟩:=exE ((b.getD []).length);have hJ:=zI s;rw[<- s];clear h hS hg x d s;go_enter Tryz.func70,Tryz.ntmps70;go_upto_region 1 with fail
 rw[<- K.out];have a:=zI (J.out w1 u.out);go_wp2_with fail
 refine a.out.mono ?_;rintro e w2 ⟨rfl,Z⟩;subst Z;have Y:=zI (I.out w1 u.out);go_wp2_with fail
 refine Y.out.mono ?_;rintro e w2 ⟨v2,rfl,r,p⟩;rw[HL.out,<- hJ.out] at r;obtain⟨A2,c2,rfl,_⟩:=Jao r;have o:=zI (u.out.trans (p.mono u.out.size));have Ha:=zI (L.out.below p);have V:=zI (H.out w2 o.out);clear r p;go_wp2_with fail
 refine V.out.mono ?_;rintro e w3 ⟨v3,rfl,m,l⟩;rw[HM.out] at m;obtain⟨A3,c3,rfl,_⟩:=Jao m;have k:=zI (o.out.trans (l.mono o.out.size));have Hb:=zI (Ha.out.below l);have U:=zI (G.out w3 k.out);clear m l;go_wp2_with fail
 refine U.out.mono ?_;rintro e w4 ⟨g4,rfl,T,j⟩;have S:=zI (k.out.trans (j.mono k.out.size));have z:=zI (Hb.out.below j);have P:=zI (F.out w4 _ g4 T);clear T j;go_wp2_with fail
 refine P.out.mono ?_;rintro e w5 ⟨rfl,Z⟩;subst Z;have O:=zI (E.out w4 S.out);obtain⟨sz,i⟩:=exE t.size;have Hc:=zI i;rw[<- i];clear i;go_wp2_with fail
 refine O.out.mono ?_;rintro e w5 ⟨rfl,Z⟩;subst Z;have r0:=z.out.at_ 0 rfl;have r1:=z.out.at_ 1 rfl;have r2:=z.out.at_ 2 rfl;have r3:=z.out.at_ 3 rfl;have r4:=z.out.at_ 4 rfl;have r5:=z.out.at_ 5 rfl;have f0:=z.out.free 0;have f1:=z.out.free 1;have f2:=z.out.free 2;have f3:=z.out.free 3;have f4:=z.out.free 4;have f5:=z.out.free 5;have Hd:=z.out.lt;go_wp2_with fail
 obtain⟨w9,g⟩:=exE (putC w4 w.heap.size 0 [.int .u64 (gen:Int),(nl:Int),(0:Int),(n:Int),(sz:Int),false]);have y:=Jaw z.out [.int .u64 (gen:Int),(nl:Int),(0:Int),(n:Int),(sz:Int),false] rfl;have M:=Jaj (B:=w.heap.size) [.int .u64 (gen:Int),(nl:Int),(0:Int),(n:Int),(sz:Int),false] (qab _) w4 0;rw[<- g] at y M;simp only[putC,qa7,Nat.reduceAdd] at g;rw[<- g];have q0:=y.at_ 0 rfl;have q1:=y.at_ 1 rfl;have q2:=y.at_ 2 rfl;have q3:=y.at_ 3 rfl;have q4:=y.at_ 4 rfl;have q5:=y.at_ 5 rfl;exact qa6 (v:=repV gen nl n sz) (by simp[results,Tryz.results70,go_sem,q0,q1,q2,q3,q4,q5]) rfl ⟨by rw[<- Hc.out],S.out.trans M⟩
abbrev repI (gen:Nat) (need:Int) (n sz:Nat):Value:= .agg #[.int .u64 (gen:Int),(need:Int),(0:Int),(n:Int),(sz:Int),false]
theorem J52{D N:Nat}{ps:List Pm}{es:List En}(h:Jij D N ps)(he:ps.map Pm.e=es):((Jcf ps).getD []).length=(es.flatMap En.bl).length:=by
 have z:=Jvo h ps.length (qab _);rw[qca] at z;rw[Jne,z,<- he,qdp]
theorem Jvp{F:Nat ->Prop}{gd N C B D R gen q:Nat}{f:Int ->Option ByteArray}{t0:Tv}{rs:List (List UInt8)}(w:World)(hD:DsAt w F gd N q f)(hL:Jd3 N C B D R)(hG:Glo w)(hS:J5y f N C B D R gen t0 rs):
  Cs 69 #[gd] w fun e w'=>∃gx gs mp bk i nP FB FS pf us lv v B0,e= .returned (.tuple #[(gx:Nat),(gs:Nat),v,(0:Int)])/\w'.ownsRow B0 9 1 v rs.length (rs.map fun l=>Value.string (strOf l))/\
   SvS w' FB F gx N C B D R gd gen i mp bk q nP none 0 pf us none lv none f/\((lv.getD []).length:Int)=t0.need/\StAt w' FS gs R t0/\OpS w w' FB FS F gx mp B0/\Below w.heap.size w w':=by
 obtain⟨i,now,nm,ts,fl,es,rsg,l,t,s⟩:=hS.ex;refine(J80 gen i now nm ts fl es rsg l t0 rs w hD hL hG t).mono ?_;rintro e w' ⟨gx,gs,mp,bk,FB,FS,ps,v,B0,rfl,z,y,r,p,x,u,o⟩;refine⟨gx,gs,mp,bk,i,_,FB,FS,_,_,_,v,B0,rfl,r,p,?_,x,u,o⟩;rw[J52 (t.ld ps z y).2.2 z];exact s
theorem look_ok{F:Nat ->Prop}{gd N C B D R gen q:Nat}{f:Int ->Option ByteArray}{t0:Tv}{rs:List (List UInt8)}(w:World)(hD:DsAt w F gd N q f)(hL:Jd3 N C B D R)(hG:Glo w)(hS:J5y f N C B D R gen t0 rs)(hg:t0.Good):
  Cs 23 #[gd] w (RB w (.tuple #[repI gen t0.need rs.length t0.size,(0:Int)])):=by
 obtain⟨w1,x⟩:=exE (w.alloc (.cells #[.int .u64 0,(0:Int),(0:Int),(0:Int),(0:Int),false] 57));have u:Below w.heap.size w w1:=by rw[x];exact(qaa _ _).alloc (qab _) _
 have b:Hid (Bx w1 w.heap.size 57 #[.int .u64 0,(0:Int),(0:Int),(0:Int),(0:Int),false]):=zI (by rw[x];exact Bx.new _ _ _);have a:=zI x;have l:=zI u;have k:=zI (Jvp w1 (hD.below u) hL (hG.below u) hS);have Z:=zI hg;obtain⟨nd,s⟩:=exE t0.need;obtain⟨sz,r⟩:=exE t0.size;obtain⟨n,Y⟩:=exE rs.length;rw[<- s,<- Y] at k;rw[<- s,<- r,<- Y];have W:=zI r;clear hD hL hG hS hg x u s r Y;go_enter Tryz.func23,Tryz.ntmps23;go_upto_region 1 with fail
 rw[<- a.out];go_wp2_with fail
 refine k.out.mono ?_;rintro e w2 ⟨gx,gs,mp,bk,i,nP,FB,FS,pf,us,lv,v,B0,rfl,S,P,j,h,_,p⟩;obtain⟨A,c,rfl,_⟩:=Jao S;have t:=Jrq (n:=n) (c:=c) (A:=A) w2 P h Z.out;rw[<- W.out] at t;rw[show repV gen (lv.getD []).length n sz=repI gen nd n sz from by unfold repV repI;rw[j]] at t;have V:=zI t;have U:=zI (b.out.below p);have g:=zI (l.out.trans (p.mono l.out.size));clear S P j h p t;go_wp2_with fail
 refine V.out.mono ?_;rintro e w4 ⟨rfl,o⟩;have z:=zI (U.out.below o);have T:=zI (g.out.trans (o.mono g.out.size));clear o;have r0:=z.out.at_ 0 rfl;have r1:=z.out.at_ 1 rfl;have r2:=z.out.at_ 2 rfl;have r3:=z.out.at_ 3 rfl;have r4:=z.out.at_ 4 rfl;have r5:=z.out.at_ 5 rfl;have f0:=z.out.free 0;have f1:=z.out.free 1;have f2:=z.out.free 2;have f3:=z.out.free 3;have f4:=z.out.free 4;have f5:=z.out.free 5;have O:=z.out.lt;go_wp2_with fail
 obtain⟨w9,m⟩:=exE (putC w4 w.heap.size 0 [.int .u64 (gen:Int),(nd:Int),(0:Int),(n:Int),(sz:Int),false]);have y:=Jaw z.out [.int .u64 (gen:Int),(nd:Int),(0:Int),(n:Int),(sz:Int),false] rfl;have d:=Jaj (B:=w.heap.size) [.int .u64 (gen:Int),(nd:Int),(0:Int),(n:Int),(sz:Int),false] (qab _) w4 0;rw[<- m] at y d;simp only[putC,qa7,Nat.reduceAdd] at m;rw[<- m];have q0:=y.at_ 0 rfl;have q1:=y.at_ 1 rfl;have q2:=y.at_ 2 rfl;have q3:=y.at_ 3 rfl;have q4:=y.at_ 4 rfl;have q5:=y.at_ 5 rfl;exact qa6 (v:= .tuple #[repI gen nd n sz,(0:Int)]) (by simp[results,Tryz.results23,go_sem,q0,q1,q2,q3,q4,q5]) rfl ⟨rfl,T.out.trans d⟩
theorem J2j(w:World):Cs 72 #[.pointer none] w (RS w (0:Int)):=by
 go_enter Tryz.func72,Tryz.ntmps72;go_wp2;go_ret;exact⟨rfl,rfl⟩
theorem J2k{F:Nat ->Prop}{gd N C B D R gen q:Nat}{f:Int ->Option ByteArray}{t0:Tv}(w:World)(hD:DsAt w F gd N q f)(hL:Jd3 N C B D R)(hG:Glo w)(hS:J5y f N C B D R gen t0 [])(hg:t0.Good):
  Cs 24 #[gd] w (RB w (0:Int)):=by
 have l:=zI (Jvp w hD hL hG hS);have O:=zI hg;have k:=zI (fun W F' g' (hT:Jag W F' g' t0)=>Jjz W hT hg.n.1 hg.rare);obtain⟨nd,h⟩:=exE t0.need;rw[<- h] at l k;clear hD hL hG hS hg h;go_enter Tryz.func24,Tryz.ntmps24;go_wp2_with fail
 refine l.out.mono ?_;rintro e w2 ⟨gx,gs,mp,bk,i,nP,FB,FS,pf,us,lv,v,B0,rfl,G,E,g,s,_,d⟩;obtain⟨A,c,rfl,_⟩:=Jao G;have r:=Jrq (n:=0) (c:=c) (A:=A) w2 E s O.out;rw[show repV gen (lv.getD []).length 0 t0.size=repI gen nd 0 t0.size from by unfold repV repI;rw[g]] at r;have b:=zI r;have M:=zI s;have a:=zI d;obtain⟨sz,Z⟩:=exE t0.size;rw[<- Z] at b;clear G E g s d r Z;go_wp2_with fail
 refine b.out.mono ?_;rintro e w3 ⟨rfl,p⟩;have Y:=zI (a.out.trans (p.mono a.out.size));have t:=zI (M.out.below p);have L:=zI (Jhk w3 t.out);clear p;go_wp2_with fail
 refine L.out.mono ?_;rintro e w4 ⟨rfl,K⟩;subst K;obtain⟨w5,u⟩:=exE (w3.alloc (.cells #[.int .u64 (gen:Int),(nd:Int),(0:Int),(0:Int),(sz:Int),false] 57));obtain⟨g7,o⟩:=exE w3.heap.size;have m:Below w3.heap.size w3 w5:=by rw[u];exact(qaa _ _).alloc (qab _) _
 have V:Bx w5 g7 57 #[.int .u64 (gen:Int),(nd:Int),(0:Int),(0:Int),(sz:Int),false]:=by rw[u,o];exact Bx.new _ _ _
 have J:=zI u;have I:=zI o;have z:=zI V;have U:=zI (Y.out.trans (m.mono Y.out.size));have H:=zI (fun W (hW:Below w5.heap.size w5 W)=>Jgr W ((t.out.below m).below hW));clear u o m V;go_upto_region 5 with fail
 rw[<- J.out,<- I.out]
 go_region_held3 (fun w'=>w'.cell? ⟨g7,1,none⟩=some (.int .i64 nd)/\w'.cell? ⟨g7,2,none⟩=some (.int .i64 0)/\Below w5.heap.size w5 w')
  (first
    | exact⟨z.out.drew.at_ 1 rfl,z.out.drew.at_ 2 rfl,(qaa _ _).drew⟩
    | exact⟨(z.out.below x).at_ 1 rfl,(z.out.below x).at_ 2 rfl,x⟩
    | exact⟨(z.out.below y).at_ 1 rfl,(z.out.below y).at_ 2 rfl,y⟩)
  (first
    | (go_at_call 31
       go_split_ands;refine(H.out _ (by assumption)).mono ?_;rintro e w6 ⟨g6,rfl,T,S⟩;have y:Below w5.heap.size w5 w6:=Below.trans (by assumption) (S.mono (Below.size (by assumption))))
    | (go_at_call 32
       refine(k.out _ _ _ T).mono ?_;rintro e w7 ⟨rfl,P⟩;have x:Below w5.heap.size w5 w7:=y.trans (P.mono y.size))
    | (go_at_call 72
       refine(J2j _).mono ?_;rintro e w8 ⟨rfl,rfl⟩)
    | (go_at_call 60
       refine(Jgq _).mono ?_;rintro e w9 ⟨rfl,rfl⟩))
 have HE:=zI (U.out.trans (x.mono U.out.size));clear y x T S P;go_wp2_with fail
 go_loopw [53] (fun j wr=>j= .int .i64 0/\w7=wr) (fun _ _=>0)
 case atStart=>exact⟨rfl,rfl⟩
 case round=>
  obtain⟨rfl,K⟩:=hrel;subst K;go_wp2_with fail
  go_ret;exact⟨rfl,HE.out⟩
theorem J53{v:Value}(c:Int)(hc:c≠0)(w:World)(H:∀W,Cs 69 #[v] W (RB W (.tuple #[.pointer none,.pointer none,(),(c:Int)]))):
  Cs 23 #[v] w (RB w (.tuple #[repI 0 0 0 0,(c:Int)])):=by
 obtain⟨w1,x⟩:=exE (w.alloc (.cells #[.int .u64 0,(0:Int),(0:Int),(0:Int),(0:Int),false] 57));have s:Below w.heap.size w w1:=by rw[x];exact(qaa _ _).alloc (qab _) _
 have p:Hid (Bx w1 w.heap.size 57 #[.int .u64 0,(0:Int),(0:Int),(0:Int),(0:Int),false]):=zI (by rw[x];exact Bx.new _ _ _);have o:=zI x;have r:=zI s;have m:=zI (H w1);have d1:(c==0)=false:=by rw[qat];exact hc
 clear H x s;go_enter Tryz.func23,Tryz.ntmps23;go_upto_region 1 with fail
 rw[<- o.out];go_wp2_with fail
 refine m.out.mono ?_;rintro e w4 ⟨rfl,u⟩;have z:=zI (p.out.below u);have n:=zI (r.out.trans (u.mono r.out.size));clear u;have r0:=z.out.at_ 0 rfl;have r1:=z.out.at_ 1 rfl;have r2:=z.out.at_ 2 rfl;have r3:=z.out.at_ 3 rfl;have r4:=z.out.at_ 4 rfl;have r5:=z.out.at_ 5 rfl;have f0:=z.out.free 0;have f1:=z.out.free 1;have f2:=z.out.free 2;have f3:=z.out.free 3;have f4:=z.out.free 4;have f5:=z.out.free 5;have l:=z.out.lt;go_wp2_with fail
 obtain⟨w9,t⟩:=exE (putC w4 w.heap.size 0 [.int .u64 0,(0:Int),(0:Int),(0:Int),(0:Int),false]);have y:=Jaw z.out [.int .u64 0,(0:Int),(0:Int),(0:Int),(0:Int),false] rfl;have q:=Jaj (B:=w.heap.size) [.int .u64 0,(0:Int),(0:Int),(0:Int),(0:Int),false] (qab _) w4 0;rw[<- t] at y q;simp only[putC,qa7,Nat.reduceAdd] at t;rw[<- t];have q0:=y.at_ 0 rfl;have q1:=y.at_ 1 rfl;have q2:=y.at_ 2 rfl;have q3:=y.at_ 3 rfl;have q4:=y.at_ 4 rfl;have q5:=y.at_ 5 rfl;exact qa6 (v:= .tuple #[repI 0 0 0 0,(c:Int)]) (by simp[results,Tryz.results23,go_sem,q0,q1,q2,q3,q4,q5]) rfl ⟨rfl,n.out.trans q⟩
theorem J54{w:World}(d:Addr)(H:Cs 130 #[.pointer (some d)] w (RB w (supV (0,0,0) 28))):
  Cs 69 #[.pointer (some d)] w (RB w (.tuple #[.pointer none,.pointer none,(),(28:Int)])):=by
 unfold supV at H;have x:=zI H;clear H;go_enter Tryz.func69,Tryz.ntmps69;go_wp2_with fail
 refine x.out.mono ?_;rintro e w1 ⟨rfl,z⟩;have y:=zI (z.alloc z.size (.cells #[.int .u64 0,(0:Int),(0:Int)] 202));clear z;go_wp2_with fail
 exact qa6 (v:= .tuple #[.pointer none,.pointer none,(),(28:Int)]) (by simp[results,Tryz.results69,go_sem]) rfl ⟨rfl,y.out⟩
theorem J2l{F:Nat ->Prop}{g N q:Nat}{f:Int ->Option ByteArray}(w:World)(h:DsAt w F g N q f)(hN:2<=N)(h0:Jav f 0=strOf (zeros 256))(h1:Jav f 1=strOf (zeros 256)):
  Cs 24 #[g] w (RB w (28:Int)):=by
 refine Jlu 28 (by omega) w (J54 _ ?_);have:=h.supread hN none none h0 h1;rw[show supR N (bsts none none 2)=supV (0,0,0) 28 from qa0 (.inl rfl)] at this;exact this
theorem J55(a c:Nat)(ha:a<256)(hc:1<=c/\c<256):∃v:Nat,v<256/\v≠a/\bits BinOp.xor IntKind.u8 (a:Int) (c:Int)=(v:Int):=by
 refine⟨a ^^^ c,Nat.xor_lt_two_pow (n:=8) ha hc.2,fun h=> ?_,?_⟩
 · have z:a ^^^ (a ^^^ c)=a ^^^ a:=by rw[h]
   rw[<- Nat.xor_assoc,Nat.xor_self,Nat.zero_xor] at z;omega
 · have y:a ^^^ c<256:=Nat.xor_lt_two_pow (n:=8) ha hc.2
   unfold bits;show IntKind.u8.wrap ((BitVec.ofInt 8 (a:Int) ^^^ BitVec.ofInt 8 (c:Int)).toNat:Int)=_;have e1:BitVec.ofInt 8 (a:Int)=BitVec.ofNat 8 a:=by apply BitVec.eq_of_toNat_eq;simp
   have e2:BitVec.ofInt 8 (c:Int)=BitVec.ofNat 8 c:=by apply BitVec.eq_of_toNat_eq;simp
   rw[e1,e2,BitVec.toNat_xor,BitVec.toNat_ofNat,BitVec.toNat_ofNat,Nat.mod_eq_of_lt ha,Nat.mod_eq_of_lt hc.2,IntKind.wrap_u8];omega
theorem Jxo(l:List UInt8)(w:World):∃c w1,(convert 9 74 (strOf l)).run Tryz.prog w= .ok (.slice (some ⟨w.heap.size,0,none⟩) l.length c) w1/\Below w.heap.size w w1/\w1.heap.size=w.heap.size+1/\
  (∀j (hj:j<l.length),w1.cell? ⟨w.heap.size,j,none⟩=some (.int .u8 (l[j].toNat:Int)))/\∀j,j<l.length ->w1.frozen? ⟨w.heap.size,j,none⟩=false:=by
 refine⟨_,_,run_bytes_of_string w 9 74 5 (strOf l) Tryz.underlying9 Tryz.underlying74 Tryz.underlying5,(qaa _ _).drew.alloc (qab _) _,by simp,fun j hj=> ?_,fun j hj=> ?_⟩
 · have z:=World.cell?_alloc_mark w.drew (bytesRow (strOf l) (grownCap w (strOf l).size 0 5)) 5 ((bytesRow (strOf l) (grownCap w (strOf l).size 0 5)).size,(bytesRow (strOf l) (grownCap w (strOf l).size 0 5)).size+1) j
   exact z.trans (bytesRow_at (strOf l) _ j (by simpa[strOf] using hj))
 · have z:=World.frozen?_alloc_mark w.drew (bytesRow (strOf l) (grownCap w (strOf l).size 0 5)) 5 ((bytesRow (strOf l) (grownCap w (strOf l).size 0 5)).size) ((bytesRow (strOf l) (grownCap w (strOf l).size 0 5)).size+1) j
   have y:=bytesRow_at (strOf l) (grownCap w (strOf l).size 0 5) j (by simpa[strOf] using hj);have x:=(qc1.1 y).1;rw[show w.heap.size=w.drew.heap.size from rfl,z]
   simp
   omega
theorem Jxp{w:World}{b c:Nat}{l:List UInt8}(h:∀j (hj:j<l.length),w.cell? ⟨b,j,none⟩=some (.int .u8 (l[j].toNat:Int))):
  (convert 74 9 (.slice (some ⟨b,0,none⟩) l.length c)).run Tryz.prog w= .ok (strOf l) w:=by
 refine run_convert_bytes_back w 74 9 5 ⟨b,0,none⟩ c l Tryz.underlying74 Tryz.underlying5 Tryz.underlying9 (fun j hj=> ?_)
 have e:(⟨b,0,none⟩:Addr).add j=⟨b,j,none⟩:=by
  unfold Addr.add;by_cases z:j=0
  · simp[z]
  · simp[z]
 rw[e];exact h j hj
