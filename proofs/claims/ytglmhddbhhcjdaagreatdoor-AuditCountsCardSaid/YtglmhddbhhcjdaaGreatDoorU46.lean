/-
  Several texts in one: Alv, Aliv, Audr, Audl, Ask, Like.
-/
import Derived.Test.YtglmhddbhhcjdaaGreatDoorU43
import Derived.Test.YtglmhddbhhcjdaaGreatDoorU44
set_option maxRecDepth 100000
set_option linter.unusedSimpArgs false
set_option maxHeartbeats 4000000
namespace Go.Proofs.YtglmhddbhhcjdaaGreatDoor
open Go.RowKit
theorem J4s:Jd9 90 10 28 38 26:=⟨by omega,rfl,rfl,rfl,rfl⟩
theorem Juo{D N:Nat}{ps:List Pm}(h:Jk4 D N ps):∀k,k<=ps.length ->(usOf (ps.take k)).length=((ps.take k).flatMap fun p=>p.e.bl).length
 | 0,_=>by simp[usOf]
 | k+1,hk=>by
   obtain⟨z,y⟩:=h.at_ (k:=k) (by omega);rw[qam (by omega),Jh7,Led.length_insAll z y,Juo h k (by omega),qan,qac]
   simp
theorem J4t(b:Option (List Int))(s:ByteArray)(hs:s=⟨#[108,105,118,101]⟩):Led.heldV (Led.w3 none b none) s.data.toList=b.getD []:=by
 subst hs;exact Led.hL3 none b none
theorem Jwh(ps:List Pm):(Jc3 ps).getD []=usOf ps:=by
 unfold Jc3;by_cases h:ps=[]
 · rw[if_pos h,h];rfl
 · rw[if_neg h];rfl
theorem Jwi:needW (Jak webT webT.tabs.length)=0:=by have:=Jbk.needW;rw[Jf3] at this;omega
theorem Jld{v v0:SvV}(h:SvG 38 90 v0 (Jak webT webT.tabs.length) v):v.es=[]:=by
 have e:Jak webT webT.tabs.length=[]:=by
  cases hx:Jak webT webT.tabs.length with
  | nil=>rfl
  | cons x r=>
    obtain⟨i,s,y,w,_,z⟩:=Jgn (t:=webT) (k:=webT.tabs.length) (x:=x) (by rw[hx];simp);rw[Jjj] at z;exact absurd rfl z
 rw[e] at h;exact qb5 h.es
def Jfe (t:Tv):Nat ->Nat
 | 0=>0
 | k+1=>Jfe t k+(t.tab k).length
def Tv.size (t:Tv):Nat:=Jfe t t.tabs.length
theorem Jq4{t:Tv}{M:Nat}(h:∀i,i<t.tabs.length ->(t.tab i).length<=M):∀k,k<=t.tabs.length ->Jfe t k<=k*M
 | 0,_=>by simp[Jfe]
 | k+1,hk=>by
   have z:=Jq4 h k (by omega);have y:=h k (by omega);show Jfe t k+(t.tab k).length<=_;rw[Nat.succ_mul];omega
theorem J06{F:Nat ->Prop}{g:Nat}{t:Tv}(w:World)(h:Jae w F g t)(h1:1<=t.tabs.length)(hfew:∀i,i<t.tabs.length ->(t.tab i).length<=10000):
  Calls Tryz.prog 33 #[.pointer (some ⟨g,0,none⟩)] w fun e w'=>e= .returned (.int .i64 (t.size:Int))/\w=w':=by
 have V:=h.few;have x:=fun k=>Jq4 hfew k;obtain⟨b,off,cl,_,_,c4,_⟩:=h.focus 0 (by omega);have U:=zI (fun i a=>h.focus i a);have v:=zI (show t.size=Jfe t t.tabs.length from rfl);obtain⟨N,q⟩:∃N,N=t.tabs.length:=⟨_,rfl⟩;rw[<- q] at V h1 c4 x v;have Z:=zI q;have p:=zI x;rw[v.out];clear h hfew q x v;go_enter Tryz.func33,Tryz.ntmps33;go_wp2_with fail
 go_loopw [3,13] (fun s j wr=>∃i z:Nat,i<=N/\j= .int .i64 (i:Int)/\s= .int .i64 (z:Int)/\z=Jfe t i/\w=wr) (fun _ j _=>N - (intOf j).toNat)
 case atStart=>exact⟨0,0,qak _,rfl,rfl,rfl,rfl⟩
 case round=>
  obtain⟨i,z,a,rfl,rfl,r,o⟩:=hrel;subst o;by_cases n:i<N
  · obtain⟨b2,off2,cl2,ga,gm,c42,_,Y,y,_,_⟩:=U.out i (by rw[<- Z.out];exact n)
    rw[<- Z.out] at c42;have l:=c4.symm.trans c42;cases l
    have u:=J1n y;obtain⟨m,f⟩:∃m,m=(t.tab i).length:=⟨_,rfl⟩;rw[<- f] at u;have d:=zI u;have T:=p.out (i+1) (by omega);have W:=zI (show((z:Int)+(m:Int))=((z+m:Nat):Int)/\z+m=Jfe t (i+1) from⟨by omega,by rw[r,f];rfl⟩)
    have S:z+m<=11000000:=by
     have h1:=W.out.2;have:(i+1)*10000<=1001*10000:=Nat.mul_le_mul_right _ (by omega);omega
    clear y c42 f T r u;go_wp2_with fail
    refine d.out.mono ?_;rintro e w1 ⟨rfl,o⟩;subst o;go_wp2_with fail
    go_roundw
    case rel=>exact⟨i+1,z+m,by omega,by go_num,by go_num,W.out.2,trivial⟩
    case measure=>simp[intOf];omega
  · have c:i=N:=by omega
    subst c;have R:=zI r;clear r;go_wp2_with fail
    go_ret;exact⟨by rw[R.out];rfl,rfl⟩
theorem J07{F:Nat ->Prop}{g room:Nat}{t:Tv}(w:World)(h:StAt w F g room t):Calls Tryz.prog 137 #[.pointer (some ⟨g,0,none⟩)] w fun e w'=>e= .returned (.bool false)/\w=w':=by
 obtain⟨gt,FT,z,_,_,_⟩:=h.ex;have s2:=z.at_ 2 (v:= .pointer none) rfl;clear h z;go_enter Tryz.func137,Tryz.ntmps137;go_wp2_with fail
 go_ret;exact⟨rfl,rfl⟩
abbrev repV (gen live n sz:Nat):Value:= .agg #[.int .u64 (gen:Int),.int .i64 (live:Int),.int .i64 0,.int .i64 (n:Int),.int .i64 (sz:Int),.bool false]
theorem Jq5{FB FD FS:Nat ->Prop}{gx N C B D R gd gen id mp bk q nP gs room n c:Nat}{A:Option Addr}{lg:Option Addr}{bad:Int}{pf:Nat ->Nat ->Option PRaw}{us:List Int}{b:Option (List Int)}{f:Int ->Option ByteArray}{t:Tv}(w:World)(h:SvS w FB FD gx N C B D R gd gen id mp bk q nP lg bad pf us none b none f)(hS:StAt w FS gs room t)(hg:t.Good):
  Calls Tryz.prog 70 #[.pointer (some ⟨gx,0,none⟩),.pointer (some ⟨gs,0,none⟩),.slice A n c] w fun e w'=>e= .returned (repV gen (b.getD []).length n t.size)/\Below w.heap.size w w':=by
 obtain⟨w1,x⟩:∃w1,w1=w.alloc (.cells #[.int .u64 0,.int .i64 0,.int .i64 0,.int .i64 0,.int .i64 0,.bool false] 57):=⟨_,rfl⟩;have d:Below w.heap.size w w1:=by rw[x];exact(qaa _ _).alloc (qab _) _
 have L:Hid (Bx w1 w.heap.size 57 #[.int .u64 0,.int .i64 0,.int .i64 0,.int .i64 0,.int .i64 0,.bool false]):=zI (by rw[x];exact Bx.new _ _ _);have K:=zI x;have u:=zI d;have J:=zI (fun W (hW:Below w.heap.size w W)=>J7u (h.box.below hW));have I:=zI (fun W (hW:Below w.heap.size w W)=>Jq1 ⟨#[108,105,118,101]⟩ W (h.below hW) (by decide));have H:=zI (fun W (hW:Below w.heap.size w W)=>Jq1 ⟨#[109,111,118,101]⟩ W (h.below hW) (by decide));have G:=zI (fun W (hW:Below w.heap.size w W)=>Jeo W (hS.below hW));have F:=zI (fun W F' g' (hT:Jae W F' g' t)=>J06 W hT hg.n.1 hg.few);have E:=zI (fun W (hW:Below w.heap.size w W)=>J07 W (hS.below hW));have HL:=zI (J4t b ⟨#[108,105,118,101]⟩ rfl);have HM:=zI (show Led.heldV (Led.w3 none b none) (⟨#[109,111,118,101]⟩:ByteArray).data.toList=[] from Led.hM3 none b none);obtain⟨nl,s⟩:∃nl,nl=(b.getD []).length:=⟨_,rfl⟩;have hJ:=zI s;rw[<- s];clear h hS hg x d s;go_enter Tryz.func70,Tryz.ntmps70;go_upto_region 1 with fail
 rw[<- K.out];have a:=zI (J.out w1 u.out);go_wp2_with fail
 refine a.out.mono ?_;rintro e w2 ⟨rfl,Z⟩;subst Z;have Y:=zI (I.out w1 u.out);go_wp2_with fail
 refine Y.out.mono ?_;rintro e w2 ⟨v2,rfl,r,p⟩;rw[HL.out,<- hJ.out] at r;obtain⟨A2,c2,rfl,_⟩:=Jaq r;have o:=zI (u.out.trans (p.mono u.out.size));have Ha:=zI (L.out.below p);have V:=zI (H.out w2 o.out);clear r p;go_wp2_with fail
 refine V.out.mono ?_;rintro e w3 ⟨v3,rfl,m,l⟩;rw[HM.out] at m;obtain⟨A3,c3,rfl,_⟩:=Jaq m;have k:=zI (o.out.trans (l.mono o.out.size));have Hb:=zI (Ha.out.below l);have U:=zI (G.out w3 k.out);clear m l;go_wp2_with fail
 refine U.out.mono ?_;rintro e w4 ⟨g4,rfl,T,j⟩;have S:=zI (k.out.trans (j.mono k.out.size));have z:=zI (Hb.out.below j);have P:=zI (F.out w4 _ g4 T);clear T j;go_wp2_with fail
 refine P.out.mono ?_;rintro e w5 ⟨rfl,Z⟩;subst Z;have O:=zI (E.out w4 S.out);obtain⟨sz,i⟩:∃sz,sz=t.size:=⟨_,rfl⟩;have Hc:=zI i;rw[<- i];clear i;go_wp2_with fail
 refine O.out.mono ?_;rintro e w5 ⟨rfl,Z⟩;subst Z;have r0:=z.out.at_ 0 rfl;have r1:=z.out.at_ 1 rfl;have r2:=z.out.at_ 2 rfl;have r3:=z.out.at_ 3 rfl;have r4:=z.out.at_ 4 rfl;have r5:=z.out.at_ 5 rfl;have f0:=z.out.free 0;have f1:=z.out.free 1;have f2:=z.out.free 2;have f3:=z.out.free 3;have f4:=z.out.free 4;have f5:=z.out.free 5;have Hd:=z.out.lt;go_wp2_with fail
 obtain⟨w9,g⟩:∃w9,w9=putC w4 w.heap.size 0 [.int .u64 (gen:Int),.int .i64 (nl:Int),.int .i64 0,.int .i64 (n:Int),.int .i64 (sz:Int),.bool false]:=⟨_,rfl⟩;have y:=Ja6 z.out [.int .u64 (gen:Int),.int .i64 (nl:Int),.int .i64 0,.int .i64 (n:Int),.int .i64 (sz:Int),.bool false] rfl;have M:=Jan (B:=w.heap.size) [.int .u64 (gen:Int),.int .i64 (nl:Int),.int .i64 0,.int .i64 (n:Int),.int .i64 (sz:Int),.bool false] (qab _) w4 0;rw[<- g] at y M;simp only[putC,qay,Nat.reduceAdd] at g;rw[<- g];have q0:=y.at_ 0 rfl;have q1:=y.at_ 1 rfl;have q2:=y.at_ 2 rfl;have q3:=y.at_ 3 rfl;have q4:=y.at_ 4 rfl;have q5:=y.at_ 5 rfl;exact qa8 (v:=repV gen nl n sz) (by simp[results,Tryz.results70,go_sem,q0,q1,q2,q3,q4,q5]) rfl ⟨by rw[<- Hc.out],S.out.trans M⟩
abbrev repI (gen:Nat) (need:Int) (n sz:Nat):Value:= .agg #[.int .u64 (gen:Int),.int .i64 need,.int .i64 0,.int .i64 (n:Int),.int .i64 (sz:Int),.bool false]
theorem J4u{D N:Nat}{ps:List Pm}{es:List En}(h:Jk4 D N ps)(he:ps.map Pm.e=es):((Jc3 ps).getD []).length=(es.flatMap En.bl).length:=by
 have z:=Juo h ps.length (qab _);rw[qa3] at z;rw[Jwh,z,<- he,List.flatMap_map]
theorem Jup{F:Nat ->Prop}{gd N C B D R gen q:Nat}{f:Int ->Option ByteArray}{t0:Tv}{rs:List (List UInt8)}(w:World)(hD:DsAt w F gd N q f)(hL:Jd9 N C B D R)(hG:Glo w)(hS:J4k f N C B D R gen t0 rs):
  Calls Tryz.prog 69 #[.pointer (some ⟨gd,0,none⟩)] w fun e w'=>∃gx gs mp bk i nP FB FS pf us lv v,e= .returned (.tuple #[.pointer (some ⟨gx,0,none⟩),.pointer (some ⟨gs,0,none⟩),v,.int .i64 0])/\w'.ownsRow w.heap.size 9 1 v rs.length (rs.map fun l=>Value.string (strOf l))/\
   SvS w' FB F gx N C B D R gd gen i mp bk q nP none 0 pf us none lv none f/\((lv.getD []).length:Int)=t0.need/\StAt w' FS gs R t0/\OpS w w' FB FS F gx mp/\Below w.heap.size w w':=by
 obtain⟨i,now,nm,ts,fl,es,rsg,l,t,s⟩:=hS.ex;refine(J7s gen i now nm ts fl es rsg l t0 rs w hD hL hG t).mono ?_;rintro e w' ⟨gx,gs,mp,bk,FB,FS,ps,v,rfl,z,y,r,p,x,u,o⟩;refine⟨gx,gs,mp,bk,i,_,FB,FS,_,_,_,v,rfl,r,p,?_,x,u,o⟩;rw[J4u (t.ld ps z y).2.2 z];exact s
theorem look_ok{F:Nat ->Prop}{gd N C B D R gen q:Nat}{f:Int ->Option ByteArray}{t0:Tv}{rs:List (List UInt8)}(w:World)(hD:DsAt w F gd N q f)(hL:Jd9 N C B D R)(hG:Glo w)(hS:J4k f N C B D R gen t0 rs)(hg:t0.Good):
  Calls Tryz.prog 23 #[.pointer (some ⟨gd,0,none⟩)] w fun e w'=>e= .returned (.tuple #[repI gen t0.need rs.length t0.size,.int .i64 0])/\Below w.heap.size w w':=by
 obtain⟨w1,x⟩:∃w1,w1=w.alloc (.cells #[.int .u64 0,.int .i64 0,.int .i64 0,.int .i64 0,.int .i64 0,.bool false] 57):=⟨_,rfl⟩;have u:Below w.heap.size w w1:=by rw[x];exact(qaa _ _).alloc (qab _) _
 have b:Hid (Bx w1 w.heap.size 57 #[.int .u64 0,.int .i64 0,.int .i64 0,.int .i64 0,.int .i64 0,.bool false]):=zI (by rw[x];exact Bx.new _ _ _);have a:=zI x;have l:=zI u;have k:=zI (Jup w1 (hD.below u) hL (hG.below u) hS);have Z:=zI hg;obtain⟨nd,s⟩:∃nd,nd=t0.need:=⟨_,rfl⟩;obtain⟨sz,r⟩:∃sz,sz=t0.size:=⟨_,rfl⟩;obtain⟨n,Y⟩:∃n,n=rs.length:=⟨_,rfl⟩;rw[<- s,<- Y] at k;rw[<- s,<- r,<- Y];have W:=zI r;clear hD hL hG hS hg x u s r Y;go_enter Tryz.func23,Tryz.ntmps23;go_upto_region 1 with fail
 rw[<- a.out];go_wp2_with fail
 refine k.out.mono ?_;rintro e w2 ⟨gx,gs,mp,bk,i,nP,FB,FS,pf,us,lv,v,rfl,S,P,j,h,_,p⟩;obtain⟨A,c,rfl,_⟩:=Jaq S;have t:=Jq5 (n:=n) (c:=c) (A:=A) w2 P h Z.out;rw[<- W.out] at t;rw[show repV gen (lv.getD []).length n sz=repI gen nd n sz from by unfold repV repI;rw[j]] at t;have V:=zI t;have U:=zI (b.out.below p);have g:=zI (l.out.trans (p.mono l.out.size));clear S P j h p t;go_wp2_with fail
 refine V.out.mono ?_;rintro e w4 ⟨rfl,o⟩;have z:=zI (U.out.below o);have T:=zI (g.out.trans (o.mono g.out.size));clear o;have r0:=z.out.at_ 0 rfl;have r1:=z.out.at_ 1 rfl;have r2:=z.out.at_ 2 rfl;have r3:=z.out.at_ 3 rfl;have r4:=z.out.at_ 4 rfl;have r5:=z.out.at_ 5 rfl;have f0:=z.out.free 0;have f1:=z.out.free 1;have f2:=z.out.free 2;have f3:=z.out.free 3;have f4:=z.out.free 4;have f5:=z.out.free 5;have O:=z.out.lt;go_wp2_with fail
 obtain⟨w9,m⟩:∃w9,w9=putC w4 w.heap.size 0 [.int .u64 (gen:Int),.int .i64 nd,.int .i64 0,.int .i64 (n:Int),.int .i64 (sz:Int),.bool false]:=⟨_,rfl⟩;have y:=Ja6 z.out [.int .u64 (gen:Int),.int .i64 nd,.int .i64 0,.int .i64 (n:Int),.int .i64 (sz:Int),.bool false] rfl;have d:=Jan (B:=w.heap.size) [.int .u64 (gen:Int),.int .i64 nd,.int .i64 0,.int .i64 (n:Int),.int .i64 (sz:Int),.bool false] (qab _) w4 0;rw[<- m] at y d;simp only[putC,qay,Nat.reduceAdd] at m;rw[<- m];have q0:=y.at_ 0 rfl;have q1:=y.at_ 1 rfl;have q2:=y.at_ 2 rfl;have q3:=y.at_ 3 rfl;have q4:=y.at_ 4 rfl;have q5:=y.at_ 5 rfl;exact qa8 (v:= .tuple #[repI gen nd n sz,.int .i64 0]) (by simp[results,Tryz.results23,go_sem,q0,q1,q2,q3,q4,q5]) rfl ⟨rfl,T.out.trans d⟩
theorem J08(w:World):Calls Tryz.prog 72 #[.pointer none] w fun e w'=>e= .returned (.int .i64 0)/\w=w':=by
 go_enter Tryz.func72,Tryz.ntmps72;go_wp2;go_ret;exact⟨rfl,rfl⟩
theorem Jq6{F:Nat ->Prop}{gd N C B D R gen q:Nat}{f:Int ->Option ByteArray}{t0:Tv}(w:World)(hD:DsAt w F gd N q f)(hL:Jd9 N C B D R)(hG:Glo w)(hS:J4k f N C B D R gen t0 [])(hg:t0.Good):
  Calls Tryz.prog 24 #[.pointer (some ⟨gd,0,none⟩)] w fun e w'=>e= .returned (.int .i64 0)/\Below w.heap.size w w':=by
 have l:=zI (Jup w hD hL hG hS);have O:=zI hg;have k:=zI (fun W F' g' (hT:Jae W F' g' t0)=>Jh2 W hT hg.n.1 hg.rare);obtain⟨nd,h⟩:∃nd,nd=t0.need:=⟨_,rfl⟩;rw[<- h] at l k;clear hD hL hG hS hg h;go_enter Tryz.func24,Tryz.ntmps24;go_wp2_with fail
 refine l.out.mono ?_;rintro e w2 ⟨gx,gs,mp,bk,i,nP,FB,FS,pf,us,lv,v,rfl,G,E,g,s,_,d⟩;obtain⟨A,c,rfl,_⟩:=Jaq G;have r:=Jq5 (n:=0) (c:=c) (A:=A) w2 E s O.out;rw[show repV gen (lv.getD []).length 0 t0.size=repI gen nd 0 t0.size from by unfold repV repI;rw[g]] at r;have b:=zI r;have M:=zI s;have a:=zI d;obtain⟨sz,Z⟩:∃sz,sz=t0.size:=⟨_,rfl⟩;rw[<- Z] at b;clear G E g s d r Z;go_wp2_with fail
 refine b.out.mono ?_;rintro e w3 ⟨rfl,p⟩;have Y:=zI (a.out.trans (p.mono a.out.size));have t:=zI (M.out.below p);have L:=zI (Jhc w3 t.out);clear p;go_wp2_with fail
 refine L.out.mono ?_;rintro e w4 ⟨rfl,K⟩;subst K;obtain⟨w5,u⟩:∃w5,w5=w3.alloc (.cells #[.int .u64 (gen:Int),.int .i64 nd,.int .i64 0,.int .i64 0,.int .i64 (sz:Int),.bool false] 57):=⟨_,rfl⟩;obtain⟨g7,o⟩:∃g7,g7=w3.heap.size:=⟨_,rfl⟩;have m:Below w3.heap.size w3 w5:=by rw[u];exact(qaa _ _).alloc (qab _) _
 have V:Bx w5 g7 57 #[.int .u64 (gen:Int),.int .i64 nd,.int .i64 0,.int .i64 0,.int .i64 (sz:Int),.bool false]:=by rw[u,o];exact Bx.new _ _ _
 have J:=zI u;have I:=zI o;have z:=zI V;have U:=zI (Y.out.trans (m.mono Y.out.size));have H:=zI (fun W (hW:Below w5.heap.size w5 W)=>Jeo W ((t.out.below m).below hW));clear u o m V;go_upto_region 5 with fail
 rw[<- J.out,<- I.out]
 go_region_held3 (fun w'=>w'.cell? ⟨g7,1,none⟩=some (.int .i64 nd)/\w'.cell? ⟨g7,2,none⟩=some (.int .i64 0)/\Below w5.heap.size w5 w')
  (first
    | exact⟨z.out.drew.at_ 1 rfl,z.out.drew.at_ 2 rfl,(qaa _ _).drew⟩
    | exact⟨(z.out.below x).at_ 1 rfl,(z.out.below x).at_ 2 rfl,x⟩
    | exact⟨(z.out.below y).at_ 1 rfl,(z.out.below y).at_ 2 rfl,y⟩)
  (first
    | (go_at_call 31
       go_split_ands;refine(H.out _ (by assumption)).mono ?_;rintro e w6 ⟨g6,rfl,T,S⟩;have y:Below w5.heap.size w5 w6:=Below.trans (by assumption) (S.mono (Below.size (by assumption))))
    | (go_at_call 32
       refine(k.out _ _ _ T).mono ?_;rintro e w7 ⟨rfl,P⟩;have x:Below w5.heap.size w5 w7:=y.trans (P.mono y.size))
    | (go_at_call 72
       refine(J08 _).mono ?_;rintro e w8 ⟨rfl,rfl⟩)
    | (go_at_call 60
       refine(Jgk _).mono ?_;rintro e w9 ⟨rfl,rfl⟩))
 have HE:=zI (U.out.trans (x.mono U.out.size));clear y x T S P;go_wp2_with fail
 go_loopw [53] (fun j wr=>j= .int .i64 0/\w7=wr) (fun _ _=>0)
 case atStart=>exact⟨rfl,rfl⟩
 case round=>
  obtain⟨rfl,K⟩:=hrel;subst K;go_wp2_with fail
  go_ret;exact⟨rfl,HE.out⟩
def J83 (s:ByteArray) (a b:Int):Prop:=Jaf s.toList=true/\0<=a/\a<=b
open Classical in
noncomputable def Tv.askV (t:Tv) (s:ByteArray) (a b:Int):Int×Int×List Rc:=
 if J83 s a b then (t.r.cover a,0,(t.tab (t.r.cover a).toNat).filter fun r=> !rngP s a b r) else (0,1,[])
theorem Jq7(r:Rch)(a:Int)(h:1<=r.ts.length):∃i:Nat,r.cover a=(i:Int)/\i<r.ts.length:=by
 unfold Rch.cover;cases hf:(List.range r.ts.length).find? (fun i=>decide (r.from_ i<=a)) with
 | none=>exact⟨r.ts.length - 1,by show(r.ts.length:Int) - 1=_;omega,by omega⟩
 | some i=>
   have:=List.mem_of_find?_eq_some hf;exact⟨i,rfl,qco.1 this⟩
abbrev ansV (k:Int) (A:Option Addr) (n c:Nat) (e:Int):Value:= .tuple #[.agg #[.int .i64 k,.slice A n c],.int .i64 e]
def Joh (w:World) (x:Int×Int×List Rc) (e:Ending) (w':World):Prop:=
 ∃A c,e= .returned (ansV x.1 A x.2.2.length c x.2.1)/\w'.ownsRow w.heap.size 142 7 (.slice A x.2.2.length c) x.2.2.length (x.2.2.flatMap Rc.cells)/\Below w.heap.size w w'
theorem J7y{F:Nat ->Prop}{g:Nat}{t:Tv}(s:ByteArray)(a b:Int)(w:World)(h:Jae w F g t)(h1:1<=t.tabs.length)(hs:s.size<=maxLen)(hfew:∀i,i<t.tabs.length ->(t.tab i).length<=10000):
  Calls Tryz.prog 129 #[.pointer (some ⟨g,0,none⟩),.string s,.int .i64 a,.int .i64 b] w (Joh w (t.askV s a b)):=by
 obtain⟨w1,c⟩:∃w1,w1=w.alloc (.cells #[.int .i64 0,.slice none 0 0] 45):=⟨_,rfl⟩;have M:Below w.heap.size w w1:=by rw[c];exact(qaa _ _).alloc (qab _) _
 have Z:Hid (Bx w1 w.heap.size 45 #[.int .i64 0,.slice none 0 0]):=zI (by rw[c];exact Bx.new _ _ _);have Y:=zI c;have m:=zI M;have l:=h.below M;have V:=zI (Jgh w1 l h1);have o:=zI (fun (W:World) (g:Nat) (hg:W.cell? ⟨g,0,none⟩=some (.string s))=>Jbp (some ⟨g,0,none⟩) 1 1 [s] W (by decide) rfl (by simpa using hs) (fun _=>⟨g,0,rfl,one_cell hg⟩));rw[show([s].all fun s=>Jaf s.toList)=Jaf s.toList from by simp] at o;clear c M h;by_cases j:J83 s a b
 · rw[show t.askV s a b=(t.r.cover a,0,(t.tab (t.r.cover a).toNat).filter fun r=> !rngP s a b r) from if_pos j]
   obtain⟨i,K,U⟩:=Jq7 t.r a (by rw[l.len];exact h1);rw[l.len] at U;have Hi:=zI K;rw[K,qa2];obtain⟨d,D,T⟩:=j;rw[d] at o;have d1:decide (a<0)=false:=qat (by omega);have d2:decide (b<a)=false:=qat (by omega);have HT:=zI l;have Hj:=zI (hfew i U);obtain⟨L,hL⟩:∃L,L=(t.tab i).filter fun r=> !rngP s a b r:=⟨_,rfl⟩;rw[<- hL];have Hk:=zI hL;obtain⟨N,hN⟩:∃N,N=t.tabs.length:=⟨_,rfl⟩;have HN:=zI hN;rw[<- hN] at U h1;clear l K d D T hL hN hfew;go_enter Tryz.func129,Tryz.ntmps129;go_upto_region 1 with fail
   rw[<- Y.out];go_wp2_with fail
   refine V.out.mono ?_;rintro e w0 ⟨rfl,n⟩;subst n;go_wp2_with fail
   refine(o.out _ _ (by simp[go_sem])).mono ?_;rintro e w2 ⟨rfl,n⟩;have y:Below w1.heap.size w1 w2:=by rw[<- n];exact(qaa _ _).alloc (qab _) _
   have z:=zI (Z.out.below y);have k:=zI (m.out.trans (y.mono m.out.size));have S:=HT.out.below y;clear n y;obtain⟨A2,c2,B2,m2,d3,L2,cl3,_,_,C,J,_,Hl,_⟩:=S.tabs;have y0:=C.at_ 0 rfl;have y1:=C.at_ 1 rfl;have y2:=C.at_ 2 rfl;have y3:=C.at_ 3 rfl;rw[<- HN.out] at y2 J;have A:=zI (Jz1 A2 N c2 B2 m2 d3 t.r a w2 J (by have:=S.few;rw[<- HN.out] at this;omega));rw[Hi.out] at A;have Hm:=zI S;clear S C J Hl;go_wp2_with fail
   refine A.out.mono ?_;rintro e w3 ⟨rfl,R⟩;have hJ:=Hm.out.below R;have Ha:=zI (z.out.below R);have I:=zI (k.out.trans (R.mono k.out.size));obtain⟨b0,off0,cl0,ga,gm,c4,Ho,Hb,O,_,_⟩:=hJ.focus i (by rw[<- HN.out];exact U);rw[<- HN.out] at c4;have Hc:=zI (Jv4 s a b O (by have:=Hj.out;omega));rw[<- Hk.out] at Hc;have i0:(0:Int)<=(i:Int):=by omega
   have i1:(i:Int)<(N:Int):=by omega
   clear hJ R O y0 y1 y2 y3;go_wp2_with fail
   refine Hc.out.mono ?_;rintro e w4 ⟨v,rfl,P,H⟩;have Hd:=zI (Jgc P I.out.size);obtain⟨A4,c4',rfl,_⟩:=Jaq P;have He:=Ha.out.below H;have f:=zI He;have Hn:=zI (I.out.trans (H.mono I.out.size))
   have Hf:=zI (show ∀x,(Value.slice A4 L.length c4').ownBlock=some x -> ¬ (x=w.heap.size) from fun x hx e=>by
    have:=(P.lt x hx).1;have h5:=Ha.out.lt;omega)
   clear P H He c4 Hb;have r0:=f.out.at_ 0 rfl;have r1:=f.out.at_ 1 rfl;have f0:=f.out.free 0;have f1:=f.out.free 1;have G:=f.out.lt;obtain⟨ln,E⟩:∃ln,ln=L.length:=⟨_,rfl⟩;have Hg:=zI E;rw[<- E] at Hd Hf ⊢;clear E;go_wp2_with fail
   have u:=Ja6 f.out [.int .i64 (i:Int),.slice A4 ln c4'] rfl;have p:=Jan (B:=w.heap.size) [.int .i64 (i:Int),.slice A4 ln c4'] (qab _) w4 0;have Hh:=Jci (g:=w.heap.size) [.int .i64 (i:Int),.slice A4 ln c4'] w4 0;obtain⟨w9,q⟩:∃w9,w9=putC w4 w.heap.size 0 [.int .i64 (i:Int),.slice A4 ln c4']:=⟨_,rfl⟩;rw[<- q] at u p Hh;simp only[putC,qay] at q;rw[<- q];have q0:=u.at_ 0 rfl;have q1:=u.at_ 1 rfl;exact qa8 (v:=ansV (i:Int) A4 ln c4' 0) (by simp[results,Tryz.results129,go_sem,q0,q1]) rfl ⟨A4,c4',by rw[Hg.out],by have:=Jav Hd.out Hh Hf.out;rw[Hg.out] at this;exact this,Hn.out.trans p⟩
 rw[show t.askV s a b=(0,1,[]) from if_neg j];by_cases d:Jaf s.toList=true
 · by_cases D:0<=a
   · have T:b<a:=Int.not_le.1 fun e=>j ⟨d,D,e⟩
     have d1:decide (a<0)=false:=qat (by omega);have d2:decide (b<a)=true:=qa0 T;rw[d] at o;clear l j d D T h1 hfew;go_enter Tryz.func129,Tryz.ntmps129;go_upto_region 1 with fail
     rw[<- Y.out];go_wp2_with fail
     refine V.out.mono ?_;rintro e w0 ⟨rfl,n⟩;subst n;go_wp2_with fail
     refine(o.out _ _ (by simp[go_sem])).mono ?_;rintro e w2 ⟨rfl,n⟩;have y:Below w1.heap.size w1 w2:=by rw[<- n];exact(qaa _ _).alloc (qab _) _
     have z:=zI (Z.out.below y);have k:=zI (m.out.trans (y.mono m.out.size));clear n y;have r0:=z.out.at_ 0 rfl;have r1:=z.out.at_ 1 rfl;have f0:=z.out.free 0;have f1:=z.out.free 1;have G:=z.out.lt;go_wp2_with fail
     have u:=Ja6 z.out [.int .i64 0,.slice none 0 0] rfl;have p:=Jan (B:=w.heap.size) [.int .i64 0,.slice none 0 0] (qab _) w2 0;obtain⟨w9,q⟩:∃w9,w9=putC w2 w.heap.size 0 [.int .i64 0,.slice none 0 0]:=⟨_,rfl⟩;rw[<- q] at u p;simp only[putC,qay] at q;rw[<- q];have q0:=u.at_ 0 rfl;have q1:=u.at_ 1 rfl;exact qa8 (v:=ansV 0 none 0 0 1) (by simp[results,Tryz.results129,go_sem,q0,q1]) rfl ⟨none,0,rfl,qax _ _ _ _,k.out.trans p⟩
   · have d1:decide (a<0)=true:=qa0 (by omega)
     rw[d] at o;clear l j d D h1 hfew;go_enter Tryz.func129,Tryz.ntmps129;go_upto_region 1 with fail
     rw[<- Y.out];go_wp2_with fail
     refine V.out.mono ?_;rintro e w0 ⟨rfl,n⟩;subst n;go_wp2_with fail
     refine(o.out _ _ (by simp[go_sem])).mono ?_;rintro e w2 ⟨rfl,n⟩;have y:Below w1.heap.size w1 w2:=by rw[<- n];exact(qaa _ _).alloc (qab _) _
     have z:=zI (Z.out.below y);have k:=zI (m.out.trans (y.mono m.out.size));clear n y;have r0:=z.out.at_ 0 rfl;have r1:=z.out.at_ 1 rfl;have f0:=z.out.free 0;have f1:=z.out.free 1;have G:=z.out.lt;go_wp2_with fail
     have u:=Ja6 z.out [.int .i64 0,.slice none 0 0] rfl;have p:=Jan (B:=w.heap.size) [.int .i64 0,.slice none 0 0] (qab _) w2 0;obtain⟨w9,q⟩:∃w9,w9=putC w2 w.heap.size 0 [.int .i64 0,.slice none 0 0]:=⟨_,rfl⟩;rw[<- q] at u p;simp only[putC,qay] at q;rw[<- q];have q0:=u.at_ 0 rfl;have q1:=u.at_ 1 rfl;exact qa8 (v:=ansV 0 none 0 0 1) (by simp[results,Tryz.results129,go_sem,q0,q1]) rfl ⟨none,0,rfl,qax _ _ _ _,k.out.trans p⟩
 · rw[show Jaf s.toList=false from by cases e:Jaf s.toList;rfl;exact absurd e d] at o
   clear l j d h1 hfew;go_enter Tryz.func129,Tryz.ntmps129;go_upto_region 1 with fail
   rw[<- Y.out];go_wp2_with fail
   refine V.out.mono ?_;rintro e w0 ⟨rfl,n⟩;subst n;go_wp2_with fail
   refine(o.out _ _ (by simp[go_sem])).mono ?_;rintro e w2 ⟨rfl,n⟩;have y:Below w1.heap.size w1 w2:=by rw[<- n];exact(qaa _ _).alloc (qab _) _
   have z:=zI (Z.out.below y);have k:=zI (m.out.trans (y.mono m.out.size));clear n y;have r0:=z.out.at_ 0 rfl;have r1:=z.out.at_ 1 rfl;have f0:=z.out.free 0;have f1:=z.out.free 1;have G:=z.out.lt;go_wp2_with fail
   have u:=Ja6 z.out [.int .i64 0,.slice none 0 0] rfl;have p:=Jan (B:=w.heap.size) [.int .i64 0,.slice none 0 0] (qab _) w2 0;obtain⟨w9,q⟩:∃w9,w9=putC w2 w.heap.size 0 [.int .i64 0,.slice none 0 0]:=⟨_,rfl⟩;rw[<- q] at u p;simp only[putC,qay] at q;rw[<- q];have q0:=u.at_ 0 rfl;have q1:=u.at_ 1 rfl;exact qa8 (v:=ansV 0 none 0 0 1) (by simp[results,Tryz.results129,go_sem,q0,q1]) rfl ⟨none,0,rfl,qax _ _ _ _,k.out.trans p⟩
theorem Juq{F:Nat ->Prop}{g room:Nat}{t:Tv}(s:ByteArray)(a b:Int)(w:World)(h:StAt w F g room t)(h1:1<=t.tabs.length)(hs:s.size<=maxLen)(hfew:∀i,i<t.tabs.length ->(t.tab i).length<=10000):
  Calls Tryz.prog 67 #[.pointer (some ⟨g,0,none⟩),.string s,.int .i64 a,.int .i64 b] w (Joh w (t.askV s a b)):=by
 obtain⟨w1,y⟩:∃w1,w1=w.alloc (.cells #[.int .i64 0,.slice none 0 0] 45):=⟨_,rfl⟩;have u:Below w.heap.size w w1:=by rw[y];exact(qaa _ _).alloc (qab _) _
 have l:Hid (Bx w1 w.heap.size 45 #[.int .i64 0,.slice none 0 0]):=zI (by rw[y];exact Bx.new _ _ _);have V:=zI y;have r:=zI u;have U:=zI (Jen w1 (h.below u));obtain⟨gt,FT,m,S,_,_⟩:=(h.below u).ex;have j:=zI (J7y s a b w1 S h1 hs hfew);have s1:=m.at_ 1 (v:= .pointer (some ⟨gt,0,none⟩)) rfl;clear m S;obtain⟨X,m⟩:∃X,X=t.askV s a b:=⟨_,rfl⟩;rw[<- m] at j;rw[<- m];obtain⟨k,er,L⟩:=X;clear y u h h1 hs hfew m;go_enter Tryz.func67,Tryz.ntmps67;go_upto_region 1 with fail
 rw[<- V.out];go_wp2_with fail
 refine U.out.mono ?_;rintro e w0 ⟨rfl,P⟩;subst P;go_wp2_with fail
 refine j.out.mono ?_;rintro e w2 ⟨A,c,rfl,W,q⟩;dsimp only at W ⊢;have R:=zI (Jgc W r.out.size);have z:=zI (l.out.below q);have T:=zI (r.out.trans (q.mono r.out.size))
 have f:=zI (show ∀x,(Value.slice A L.length c).ownBlock=some x -> ¬ (x=w.heap.size) from fun x hx e=>by
  have:=(W.lt x hx).1;have N:=l.out.lt;omega)
 clear W q;obtain⟨ln,p⟩:∃ln,ln=L.length:=⟨_,rfl⟩;have d:=zI p;rw[<- p] at R f ⊢;clear p;have r0:=z.out.at_ 0 rfl;have r1:=z.out.at_ 1 rfl;have f0:=z.out.free 0;have f1:=z.out.free 1;have O:=z.out.lt;go_wp2_with fail
 have o:=Ja6 z.out [.int .i64 k,.slice A ln c] rfl;have Z:=Jan (B:=w.heap.size) [.int .i64 k,.slice A ln c] (qab _) w2 0;have Y:=Jci (g:=w.heap.size) [.int .i64 k,.slice A ln c] w2 0;obtain⟨w9,n⟩:∃w9,w9=putC w2 w.heap.size 0 [.int .i64 k,.slice A ln c]:=⟨_,rfl⟩;rw[<- n] at o Z Y;simp only[putC,qay] at n;rw[<- n];have q0:=o.at_ 0 rfl;have q1:=o.at_ 1 rfl;exact qa8 (v:=ansV k A ln c er) (by simp[results,Tryz.results67,go_sem,q0,q1]) rfl ⟨A,c,by rw[d.out],by have:=Jav R.out Y f.out;rw[d.out] at this;exact this,T.out.trans Z⟩
section
variable {F:Nat ->Prop} {ge gd N C B D R gen q:Nat} {ps:List Pm} {f:Int ->Option ByteArray} {t t0:Tv} {rs:List (List UInt8)}
theorem J7z(s:ByteArray)(a b:Int)(w:World)(h:Jat w F ge gd N C B D R gen q ps f t rs t0)(hs:s.size<=maxLen):
  Calls Tryz.prog 66 #[.pointer (some ⟨ge,0,none⟩),.string s,.int .i64 a,.int .i64 b] w (Joh w (t.askV s a b)):=by
 have M:=h.good.n.1;have u:=h.good.few;obtain⟨w1,y⟩:∃w1,w1=w.alloc (.cells #[.int .i64 0,.slice none 0 0] 45):=⟨_,rfl⟩;have r:Below w.heap.size w w1:=by rw[y];exact(qaa _ _).alloc (qab _) _
 have i:Hid (Bx w1 w.heap.size 45 #[.int .i64 0,.slice none 0 0]):=zI (by rw[y];exact Bx.new _ _ _);have T:=zI y;have p:=zI r;obtain⟨FB,FD,FT,gs,gl,mp,bk,id,S,_⟩:=(h.below r).ex;have x14:=S.bx.at_ 14 (v:= .pointer (some ⟨gs,0,none⟩)) rfl;have d:=zI (Juq s a b w1 S.st M hs u);clear S;obtain⟨X,P⟩:∃X,X=t.askV s a b:=⟨_,rfl⟩;rw[<- P] at d;rw[<- P];obtain⟨k,er,L⟩:=X;clear y r h M hs u P;go_enter Tryz.func66,Tryz.ntmps66;go_upto_region 1 with fail
 rw[<- T.out];go_wp2_with fail
 refine d.out.mono ?_;rintro e w2 ⟨A,c,rfl,U,o⟩;dsimp only at U ⊢;have K:=zI (Jgc U p.out.size);have z:=zI (i.out.below o);have O:=zI (p.out.trans (o.mono p.out.size))
 have Z:=zI (show ∀x,(Value.slice A L.length c).ownBlock=some x -> ¬ (x=w.heap.size) from fun x hx e=>by
  have:=(U.lt x hx).1;have I:=i.out.lt;omega)
 clear U o;obtain⟨ln,m⟩:∃ln,ln=L.length:=⟨_,rfl⟩;have Y:=zI m;rw[<- m] at K Z ⊢;clear m;have r0:=z.out.at_ 0 rfl;have r1:=z.out.at_ 1 rfl;have f0:=z.out.free 0;have f1:=z.out.free 1;have J:=z.out.lt;go_wp2_with fail
 have l:=Ja6 z.out [.int .i64 k,.slice A ln c] rfl;have W:=Jan (B:=w.heap.size) [.int .i64 k,.slice A ln c] (qab _) w2 0;have V:=Jci (g:=w.heap.size) [.int .i64 k,.slice A ln c] w2 0;obtain⟨w9,j⟩:∃w9,w9=putC w2 w.heap.size 0 [.int .i64 k,.slice A ln c]:=⟨_,rfl⟩;rw[<- j] at l W V;simp only[putC,qay] at j;rw[<- j];have q0:=l.at_ 0 rfl;have q1:=l.at_ 1 rfl;exact qa8 (v:=ansV k A ln c er) (by simp[results,Tryz.results66,go_sem,q0,q1]) rfl ⟨A,c,by rw[Y.out],by have:=Jav K.out V Z.out;rw[Y.out] at this;exact this,O.out.trans W⟩
end
theorem J70{t:Tv}(hg:t.Good)(s:ByteArray)(a b:Int):(t.askV s a b).2.2.length<=10000/\∀r∈(t.askV s a b).2.2,r.Fine:=by
 unfold Tv.askV;split
 · obtain⟨i,y,z⟩:=Jq7 t.r a (by rw[<- hg.len];exact hg.n.1)
   rw[y,qa2];rw[<- hg.len] at z;exact⟨qap (qcs _ _) (hg.few i z),fun r hr=>(hg.fine i z r (qbm.1 hr).1).1⟩
 · exact⟨qak _,fun r hr=>by cases hr⟩
theorem J71{F FS:Nat ->Prop}{ge gd N C B D R gen q gs room n c m d:Nat}{ps:List Pm}{f:Int ->Option ByteArray}{t t0 t2:Tv}{rs:List (List UInt8)}{A T:Option Addr}{ns:List ByteArray}{ts:List Int}(w:World)(h:Jat w F ge gd N C B D R gen q ps f t rs t0)(hS:StAt w FS gs room t2)(hg2:t2.Good)(hn:Strs w A n ns)(ht:Ints w .i64 T m ts)(heq:∀s a b,t.askV s a b=t2.askV s a b):
  Calls Tryz.prog 22 #[.pointer (some ⟨ge,0,none⟩),.pointer (some ⟨gs,0,none⟩),.slice A n c,.slice T m d] w fun e w'=>e= .returned (.bool true)/\Below w.heap.size w w':=by
 have HE:=zI h;have HS:=zI hS;have HN:=zI hn;have HT:=zI ht;have Kd:=zI hg2;have Hj:=zI (fun s a b=>J70 hg2 s a b);have Hk:=zI (fun s a b W (hW:Below w.heap.size w W) (hs:s.size<=maxLen)=>show Calls Tryz.prog 66 #[.pointer (some ⟨ge,0,none⟩),.string s,.int .i64 a,.int .i64 b] W (Joh W (t2.askV s a b)) from by rw[<- heq];exact J7z s a b W (h.below hW) hs);have Hl:=zI (fun s a b W (hW:Below w.heap.size w W) (hs:s.size<=maxLen)=>Juq s a b W (hS.below hW) hg2.n.1 hs hg2.few);have hJ:=hn.len;have Ha:=ht.len;have Hm:=hn.n_le;have Hn:=ht.n_le;unfold maxLen at Hm Hn;have Ho:=zI hJ;have Hb:=zI Ha;clear h hS hn ht hg2 heq hJ Ha;go_enter Tryz.func22,Tryz.ntmps22;go_wp2_with fail
 go_loopw [21] (fun j wr=>∃k:Nat,k<=n/\j= .int .i64 (k:Int)/\Below w.heap.size w wr) (fun j _=>n - (intOf j).toNat)
 case atStart=>exact⟨0,qak _,rfl,qaa _ _⟩
 case round=>
  obtain⟨k,hk,rfl,hb⟩:=hrel;by_cases Hp:k<n
  · have K:k<ns.length:=by rw[Ho.out];exact Hp
    obtain⟨b1,o1,Hq,_,s1⟩:=(HN.out.below hb).get K;have Hc:=zI (HN.out.size _ (qal K));generalize ns[k]'K=S at*;have HB:=zI hb;subst Hq;clear hb;go_wp2_with fail
    clear s1;go_loopw [27] (fun j wq=>∃i:Nat,i<=m/\j= .int .i64 (i:Int)/\Below w.heap.size w wq) (fun j _=>m - (intOf j).toNat)
    case atStart=>exact⟨0,qak _,rfl,HB.out⟩
    case round=>
     obtain⟨i,hi,rfl,x⟩:=hrel;by_cases Hr:i<m
     · have I:i<ts.length:=by rw[Hb.out];exact Hr
       obtain⟨b2,o2,Hs,_,s2⟩:=(HT.out.below x).get I;generalize ts[i]'I=ta at*;have g:=zI x;subst Hs;clear x;go_wp2_with fail
       clear s2;go_loopw [33] (fun j wx=>∃p:Nat,p<=m/\j= .int .i64 (p:Int)/\Below w.heap.size w wx) (fun j _=>m - (intOf j).toNat)
       case atStart=>exact⟨0,qak _,rfl,g.out⟩
       case round=>
        obtain⟨p,hp,rfl,y⟩:=hrel;by_cases Ht:p<m
        · have P:p<ts.length:=by rw[Hb.out];exact Ht
          obtain⟨b3,o3,Hu,_,s3⟩:=(HT.out.below y).get P;cases Hu
          generalize ts[p]'P=tb at*;have Hd:=zI (Hk.out S ta tb wr y Hc.out);have He:=zI (fun W (hW:Below w.heap.size w W)=>Hl.out S ta tb W hW Hc.out);have HX:=zI (Hj.out S ta tb);obtain⟨X,hX⟩:∃X,X=t2.askV S ta tb:=⟨_,rfl⟩;rw[<- hX] at Hd He HX;obtain⟨kk,er,L⟩:=X;have u:=zI y;clear y hX;go_wp2_with fail
          refine Hd.out.mono ?_;rintro e w2 ⟨A2,c2,rfl,Z,Y⟩;dsimp only at Z ⊢;obtain⟨w3,o⟩:∃w3,w3=w2.alloc (.cells #[.int .i64 kk,.slice A2 L.length c2] 45):=⟨_,rfl⟩;obtain⟨g3,V⟩:∃g3,g3=w2.heap.size:=⟨_,rfl⟩;have U:Below w2.heap.size w2 w3:=by rw[o];exact(qaa _ _).alloc (qab _) _
          have Hf:Bx w3 g3 45 #[.int .i64 kk,.slice A2 L.length c2]:=by rw[o,V];exact Bx.new _ _ _
          have O:=zI ((u.out.trans (Y.mono u.out.size)).trans (U.mono (qap u.out.size Y.size)));have Hv:=zI (Jai Z U);have Hw:=zI Hf;have Hx:=zI o;have Hy:=zI V;have Hz:=zI (He.out w3 O.out);clear Z Y o V U Hf;go_upto_region 11 with fail
          rw[<- Hx.out,<- Hy.out];go_wp2_with fail
          refine Hz.out.mono ?_;rintro e w4 ⟨A4,c4,rfl,M,J⟩;dsimp only at M ⊢;obtain⟨w5,l⟩:∃w5,w5=w4.alloc (.cells #[.int .i64 kk,.slice A4 L.length c4] 45):=⟨_,rfl⟩;obtain⟨g5,H⟩:∃g5,g5=w4.heap.size:=⟨_,rfl⟩;have G:Below w4.heap.size w4 w5:=by rw[l];exact(qaa _ _).alloc (qab _) _
          have E:Bx w5 g5 45 #[.int .i64 kk,.slice A4 L.length c4]:=by rw[l,H];exact Bx.new _ _ _
          have z:Below w3.heap.size w3 w5:=J.trans (G.mono J.size);have H0:=zI (O.out.trans (z.mono O.out.size));obtain⟨_,_,e5,Hg⟩:=Jaq (Jai M G);cases e5
          obtain⟨_,_,e3,Hh⟩:=Jaq (Jai Hv.out z);cases e3
          have H9:=zI (Jzu A2 A4 L.length c2 c4 L w5 (Jqg Hh HX.out.2 (by have:=HX.out.1;omega)) (Jqg Hg HX.out.2 (by have:=HX.out.1;omega)));have r:=Hw.out.below z;have u0:=r.at_ 0 (v:= .int .i64 kk) rfl;have u1:=r.at_ 1 (v:= .slice A2 L.length c2) rfl;have v0:=E.at_ 0 (v:= .int .i64 kk) rfl;have v1:=E.at_ 1 (v:= .slice A4 L.length c4) rfl;have Ka:=zI l;have Kb:=zI H;clear M J l H G E z Hg Hh r;go_upto_region 12 with fail
          rw[<- Ka.out,<- Kb.out];generalize L.length=ln at*;go_wp2_with fail
          refine H9.out.mono ?_;rintro e w6 ⟨rfl,q6,Hi⟩;have Kc:=zI (show Below w.heap.size w w6 from by rw[Hi];exact below_drewN H0.out q6);clear Hi u0 u1 v0 v1 s3;go_wp2_with fail
          go_roundw
          case rel=>exact⟨p+1,by omega,by go_num,Kc.out⟩
          case measure=>simp[intOf];omega
        · have u:=zI y
          have Ke:p=m:=(by omega);clear y;go_wp2_with fail
          go_roundw
          case rel=>exact⟨i+1,by omega,by go_num,u.out⟩
          case measure=>simp[intOf];omega
     · have g:=zI x
       clear x;go_wp2_with fail
       go_roundw
       case rel=>exact⟨k+1,by omega,by go_num,g.out⟩
       case measure=>simp[intOf];omega
  · have HB:=zI hb
    clear hb;go_wp2_with fail
    go_ret;exact⟨rfl,HB.out⟩
end Go.Proofs.YtglmhddbhhcjdaaGreatDoor
