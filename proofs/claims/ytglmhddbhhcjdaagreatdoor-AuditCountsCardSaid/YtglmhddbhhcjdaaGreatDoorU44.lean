/-
  Several texts in one: Walap, StoM, StaE, Ttick, StaD.
-/
import Derived.Test.YtglmhddbhhcjdaaGreatDoorU41
import Derived.Test.YtglmhddbhhcjdaaGreatDoorU40
set_option maxRecDepth 100000
set_option linter.unusedSimpArgs false
set_option maxHeartbeats 4000000
namespace Go.Proofs.YtglmhddbhhcjdaaGreatDoor
open Go.RowKit
section
variable {w0 w1 w w':World} {F:Nat ->Prop} {gl g N q fr n gen used recs:Nat} {f:Int ->Option ByteArray}
theorem LgW.back(h:LgW w1 F w gl g N q f fr n gen used recs)(hb:Below w0.heap.size w0 w1)(hi:Ins F w0)(hl:gl<w0.heap.size):LgW w0 F w gl g N q f fr n gen used recs:=
 ⟨h.dk.sub (fun _ x=>Jj4 x hb.size) (hi.grow (qap hb.size h.chg.size)),h.bx,Chg.after_below hb h.chg (fun _ x=> .inl x),hi,h.nf,hl⟩
end
theorem J4l{w:World}{gl g fr n gen used recs:Nat}(h:Bx w gl 286 (lgCs g fr n gen used recs))(hu:used<=n)(hn:n<=5000):
  Calls Tryz.prog 262 #[.pointer (some ⟨gl,0,none⟩)] w fun e w'=>e= .returned (.int .i64 ((n - used:Nat):Int))/\Below w.heap.size w w':=by
 have x2:=h.at_ 2 (v:= .int .i64 (n:Int)) rfl;have x4:=h.at_ 4 (v:= .int .i64 (used:Int)) rfl;have z:=zI (show(n:Int) - (used:Int)=((n - used:Nat):Int) from by omega);clear h;go_enter Tryz.func262,Tryz.ntmps262;go_upto_region 3 with fail
 go_quiet (fail)
 go_wp2_with fail
 go_ret;exact⟨by rw[<- z.out];rfl,below_drewN (qaa _ _) _⟩
theorem J4m{F:Nat ->Prop}{gl g N q fr n gen used recs:Nat}{f:Int ->Option ByteArray}(l:List UInt8)(w:World)(hD:DsAt w F g N q f)(hX:Bx w gl 286 (lgCs g fr n gen used recs))(hn: ¬ F gl)(hl:l.length<=3000)(hg:gen<18446744073709551616)(hr:recs<65000)(hfit:used+wlN l.length<=n)(hN:fr+n<=N)(hn5:n<=4096)(hq:q<=800000):
  Calls Tryz.prog 179 #[.pointer (some ⟨gl,0,none⟩),.string (strOf l)] w fun e w'=>e= .returned (.int .i64 0)/\
   LgW w F w' gl g N (q+2*wlN l.length) (Jb5 f (fr+used) (wlL gen recs l)) fr n gen (used+wlN l.length) (recs+1):=by
 have y3:=hX.drew.at_ 3 (v:= .int .u64 (gen:Int)) rfl;have y5:=hX.drew.at_ 5 (v:= .int .i64 (recs:Int)) rfl;have Y:=zI hX;have o:=zI (J0m gen recs l w.drew (by omega) hg (by omega));have V:=zI (fun W (hW:Below w.heap.size w W)=>J4l (hX.below hW) (show used<=n by omega) (by omega));have B:=zI (fun W (hW:Below w.heap.size w W)=>LgW.start (hD.below hW) (hX.below hW) hn);have Hk:=hD.size;have U:=zI hD.ins;have T:=zI hX.lt;have Hl:=zI hn;have t:=Jdy gen recs l
 have R:=zI (show ∀b∈wlL gen recs l,b.size=256 from fun b hb=>by
  unfold wlL at hb;obtain⟨p,_,rfl⟩:=qa7.1 hb;rw[Jab,J33 _ _ _ _ (Jjm l p)])
 obtain⟨bs,P⟩:∃bs,bs=wlL gen recs l:=⟨_,rfl⟩;rw[<- P] at t o R ⊢;obtain⟨m,hm⟩:∃m,m=wlN l.length:=⟨_,rfl⟩;rw[<- hm] at t hfit o ⊢;have O:=zI t;have Hm:(strOf l).size<=3000:=by rw[Jab];exact hl
 have d1:decide ((3000:Int)<((strOf l).size:Int))=false:=qat (by omega);have d1':decide (3000<(strOf l).size)=false:=qat (by omega);have d2:decide (((n - used:Nat):Int)<(m:Int))=false:=qat (by omega);obtain⟨rm,M⟩:∃rm,rm=n - used:=⟨_,rfl⟩;rw[<- M] at d2 V;have d2': ¬ ((rm:Int)<(m:Int)):=by omega
 have d2d:decide (rm<m)=false:=qat (by omega);have d2e: ¬ (rm<m):=by omega
 generalize strOf l=S at*;clear hD hX hn t P hm M;go_enter Tryz.func179,Tryz.ntmps179;go_upto_region 1 with fail
 go_region_held3 (fun w'=>w'.cell? ⟨gl,3,none⟩=some (.int .u64 (gen:Int))/\w'.cell? ⟨gl,5,none⟩=some (.int .i64 (recs:Int)))
  (first
    | exact⟨y3,y5⟩
    | exact⟨(Y.out.below z).at_ 3 rfl,(Y.out.below z).at_ 5 rfl⟩)
  (first
    | (go_at_call 261
       refine o.out.mono ?_;rintro e w1 ⟨v,rfl,y,r⟩;have z:Below w.heap.size w w1:=(qaa w.heap.size w).drew.trans (by simpa using r);have x:w1.ownsRow w.heap.size 9 1 v m (bs.map Value.string):=(by simpa using y);obtain⟨A,c,rfl,L⟩:=Jaq x))
 clear y3 y5 y r;go_split_ands;have J:AIn (made w w1) A:=Jce x;have u:=zI z;have i:=zI L
 have hJ:=zI (show AIn (fun b=> ¬ (F b\/b=gl)) A from J.sub (fun b hb C=>by
  have h1:=hb.1;rcases C with C | C
  · have:=U.out b C;omega
  · have:=T.out;omega))
 have I:=zI (V.out w1 z);clear x z L J;go_wp2_with fail
 refine I.out.mono ?_;rintro e w2 ⟨rfl,h⟩;have i:=zI (i.out.below h);have u:=zI (u.out.trans (h.mono u.out.size));have Ha:=zI (B.out w2 u.out);clear h;go_wp2_with fail
 go_loopw [31] (fun j wr=>∃k:Nat,k<=m/\j= .int .i64 (k:Int)/\LgW w2 F wr gl g N (q+2*k) (Jb5 f (fr+used) (bs.take k)) fr n gen (used+k) recs) (fun j _=>m - (intOf j).toNat)
 case atStart=>exact⟨0,qak _,rfl,Ha.out⟩
 case round=>
  obtain⟨k,hk,rfl,hg⟩:=hrel;by_cases Hb:k<m
  · have K:k<bs.length:=by rw[O.out];exact Hb
    have H:=i.out.chg hg.chg hJ.out;obtain⟨b,off,hA,Hc,hc⟩:=H.at_ (by intro e;have:=congrArg List.length e;rw[qaq] at this;simp at this;rw[this] at K;simp at K);have s1:=hc k (.string bs[k]) (by rw[qbx,qbw K];rfl);have Hd:=zI (R.out _ (qal K))
    have d:=zI (show Jb5 f (fr+used) (bs.take (k+1))=setS (Jb5 f (fr+used) (bs.take k)) ((fr+(used+k):Nat):Int) bs[k] from by
     rw[qam K,Jlb,qa4,Nat.min_eq_left (qcq K),qb4])
    generalize bs[k]'K=S1 at*;obtain⟨uk,G⟩:∃uk,uk=used+k:=⟨_,rfl⟩;rw[<- G] at hg d;have a:=hg.below (qaa wr.heap.size wr).drew;obtain⟨x0,x1,_,_,x4,_,_⟩:=hg.cells;obtain⟨y0,y1,_,_,y4,_,_⟩:=a.cells;obtain⟨at_,hat⟩:∃at_,at_=fr+uk:=⟨_,rfl⟩;have Hi:(fr:Int)+(uk:Int)=(at_:Int):=(by omega);have E:=zI (a.write at_ (by omega) S1 Hd.out (by omega));rw[<- hat] at d;rw[<- d.out] at E;have He:=zI (show(uk:Int)+1=((uk+1:Nat):Int) from by omega);have Hf:=zI (show uk+1=used+(k+1) from by omega);have Hn:uk+1<=5000:=(by omega);have Hj:at_<=10000:=(by omega);have Ho:IntKind.i64.wrap (at_:Int)=(at_:Int):=IntWalk.i64_in _ (by omega);have s1D:wr.drew.cell? ⟨b,off+k,none⟩=some (.string S1):=s1;subst hA;clear H Hc hc hg a hat G;go_upto_region 9 with fail
    go_region_with (first
     | (go_at_call 28
        refine E.out.mono ?_;rintro e w3 ⟨rfl,s⟩))
    all_goals
     obtain⟨_,_,_,_,z4,_,_⟩:=s.cells;have Hp:=s.bx.free 4;have Z:=zI (s.setUsed (uk+1));rw[<- He.out] at Z;rw[Hf.out] at Z;clear s s1 s1D x0 x1 x4 y0 y1 y4;go_wp2_with fail
     go_roundw
     case rel=>exact⟨k+1,by omega,by go_num,by rw[show q+2*(k+1)=q+2*k+2 from by omega];exact Z.out⟩
     case measure=>simp[intOf];omega
  · have Hg:k=m:=by omega
    subst Hg;have HT:=zI (show bs.take k=bs from qas (by rw[O.out];exact qab _));rw[HT.out] at hg;obtain⟨_,_,_,_,_,x5,_⟩:=hg.cells;have Hq:=hg.bx.free 5;have Hh:=zI (show((recs:Nat):Int)+1=((recs+1:Nat):Int) from by omega);have D:=zI ((hg.setRecs (recs+1)).back u.out U.out T.out);rw[<- Hh.out] at D;have Hr:recs+1<=70000:=(by omega);clear hg;go_wp2_with fail
    go_ret;exact⟨rfl,D.out⟩
theorem J0y{w:World}{gl g fr n gen used recs:Nat}(h:Bx w gl 286 (lgCs g fr n gen used recs)):
  Calls Tryz.prog 178 #[.pointer (some ⟨gl,0,none⟩)] w fun e w'=>e= .returned (.int .i64 0)/\w=w':=by
 have x0:=h.at_ 0 (v:= .pointer (some ⟨g,0,none⟩)) rfl;have x6:=h.at_ 6 (v:= .int .i64 0) rfl;clear h;go_enter Tryz.func178,Tryz.ntmps178;go_wp2_with fail
 go_ret;exact⟨rfl,rfl⟩
theorem J4n{w0 w:World}{F:Nat ->Prop}{gl g N q fr n gen used recs:Nat}{f:Int ->Option ByteArray}(h:LgW w0 F w gl g N q f fr n gen used recs):
  Calls Tryz.prog 180 #[.pointer (some ⟨gl,0,none⟩),.int .i64 0] w fun e w'=>e= .returned (.int .i64 0)/\LgW w0 F w' gl g N q f fr n gen used recs:=by
 have x6:=h.cells.2.2.2.2.2.2;have y:=h.bx.free 6;have z:=zI h.bad0;clear h;go_enter Tryz.func180,Tryz.ntmps180;go_wp2_with fail
 go_ret;exact⟨rfl,z.out⟩
theorem J7t{F:Nat ->Prop}{gl g N q fr n gen used recs:Nat}{f:Int ->Option ByteArray}(l:List UInt8)(b:Nat)(w:World)(hD:DsAt w F g N q f)(hX:Bx w gl 286 (lgCs g fr n gen used recs))(hn: ¬ F gl)(hs:w.cell? ⟨b,0,none⟩=some (.string (strOf l)))(hl:l.length<=3000)(hg:gen<18446744073709551616)(hr:recs<65000)(hfit:used+wlN l.length<=n)(hN:fr+n<=N)(hn5:n<=4096)(hq:q<=800000):
  Calls Tryz.prog 104 #[.pointer (some ⟨gl,0,none⟩),.slice (some ⟨b,0,none⟩) 1 1] w fun e w'=>e= .returned (.int .i64 0)/\
   LgW w F w' gl g N (q+2*wlN l.length) (Jb5 f (fr+used) (wlL gen recs l)) fr n gen (used+wlN l.length) (recs+1):=by
 have v:=zI (J0y hX);have u:=zI (J4m l w hD hX hn hl hg hr hfit hN hn5 hq);generalize strOf l=S at*;clear hD hX hn hl hg hr hfit hN hn5 hq;go_enter Tryz.func104,Tryz.ntmps104;go_wp2_with fail
 refine v.out.mono ?_;rintro e w1 ⟨rfl,x⟩;subst x;go_wp2_with fail
 go_loopw [16] (fun j wr=>(j= .int .i64 0/\w=wr)\/(j= .int .i64 1/\LgW w F wr gl g N (q+2*wlN l.length) (Jb5 f (fr+used) (wlL gen recs l)) fr n gen (used+wlN l.length) (recs+1))) (fun j _=>1 - (intOf j).toNat)
 case atStart=>exact .inl ⟨rfl,rfl⟩
 case round=>
  rcases hrel with⟨rfl,x⟩ | ⟨rfl,hg⟩
  · subst x
    go_wp2_with fail
    refine u.out.mono ?_;rintro e w2 ⟨rfl,y⟩;have z:=zI y;clear y hs;go_wp2_with fail
    go_roundw
    case rel=>exact .inr ⟨by first | rfl | go_num,z.out⟩
    case measure=>simp[intOf]
  · have z:=zI hg
    clear hg hs;go_wp2_with fail
    go_ret;exact⟨rfl,z.out⟩
theorem J0z{F:Nat ->Prop}{gl g N q fr n gen used recs:Nat}{f:Int ->Option ByteArray}(w:World)(hD:DsAt w F g N q f)(hX:Bx w gl 286 (lgCs g fr n gen used recs))(hn: ¬ F gl)(hq:q<=800000):
  Calls Tryz.prog 106 #[.pointer (some ⟨gl,0,none⟩)] w fun e w'=>e= .returned (.int .i64 0)/\LgW w F w' gl g N q f fr n gen used recs:=by
 have s:=zI (J0y hX);have x:=LgW.start hD hX hn;have x0:=x.cells.1;have v:=zI (x.flush (by omega));clear hD hX hn x;go_enter Tryz.func106,Tryz.ntmps106;go_wp2_with fail
 refine s.out.mono ?_;rintro e w1 ⟨rfl,r⟩;subst r;go_wp2_with fail
 refine v.out.mono ?_;rintro e w2 ⟨rfl,z⟩;have u:=zI (J4n z);clear z x0;go_wp2_with fail
 refine u.out.mono ?_;rintro e w3 ⟨rfl,y⟩;have t:=zI y;clear y;go_wp2_with fail
 go_ret;exact⟨rfl,t.out⟩
section
variable {w:World} {g N C B D R gen id mp bk:Nat} {d:Addr} {lg:Option Addr} {bad:Int}
theorem J7u(h:Bo w g (Jdg N C B D R d gen id mp bk lg bad)):
  Calls Tryz.prog 136 #[.pointer (some ⟨g,0,none⟩)] w fun e w'=>e= .returned (.int .u64 (gen:Int))/\w=w':=by
 have z:=zI (Jjh h);have x8:=h.at_ 8 (v:= .int .u64 (gen:Int)) rfl;clear h;go_enter Tryz.func136,Tryz.ntmps136;go_wp2_with fail
 refine z.out.mono ?_;rintro e w1 ⟨rfl,y⟩;subst y;go_wp2_with fail
 go_ret;exact⟨rfl,rfl⟩
end
theorem Jq1{FB FD:Nat ->Prop}{gx N C B D R gd gen id mp bk q nP:Nat}{lg:Option Addr}{bad:Int}{pf:Nat ->Nat ->Option PRaw}{us:List Int}{a b m:Option (List Int)}{f:Int ->Option ByteArray}(s:ByteArray)(w:World)(h:SvS w FB FD gx N C B D R gd gen id mp bk q nP lg bad pf us a b m f)(hs:s.size<=maxLen):
  Calls Tryz.prog 26 #[.pointer (some ⟨gx,0,none⟩),.string s] w fun e w'=>∃v,e= .returned v/\w'.ownsRow w.heap.size 3 1 v (Led.heldV (Led.w3 a b m) s.data.toList).length ((Led.heldV (Led.w3 a b m) s.data.toList).map (Value.int .i64))/\Below w.heap.size w w':=by
 have x:=zI (Jjh h.box);have u:=zI (Led.holds_b s w h.book hs);have x11:=h.box.at_ 11 (v:= .pointer (some ⟨bk,0,none⟩)) rfl;clear h hs;go_enter Tryz.func26,Tryz.ntmps26;go_wp2_with fail
 refine x.out.mono ?_;rintro e w1 ⟨rfl,t⟩;subst t;go_wp2_with fail
 refine u.out.mono ?_;rintro e w1 ⟨v,rfl,z,y⟩;have r:=zI z;have p:=zI y;clear z y x11;go_wp2_with fail
 go_ret;exact⟨v,rfl,r.out,p.out⟩
theorem J00{F:Nat ->Prop}{g room:Nat}{t:Tv}{A:Option Addr}{n c:Nat}{l:List Smp}(w:World)(h:StAt w F g room t)(h1:1<=t.tabs.length)(hl:Smps w A n l)(hE:t.r.putErr l≠0):
  Calls Tryz.prog 19 #[.pointer (some ⟨g,0,none⟩),.slice A n c] w fun e w'=>e= .returned (.int .i64 (t.r.putErr l))/\Below w.heap.size w w':=by
 have s:=zI (Jen w h);obtain⟨gt,FT,m,k,_,_⟩:=h.ex;have j:=zI (Jgj w k);have q:=zI (fun W F' g' (hT':Jae W F' g' t) (hl':Smps W A n l)=>J3v (c:=c) W hT' h1 hl' hE);have i:=zI hl;have s1:=m.at_ 1 (v:= .pointer (some ⟨gt,0,none⟩)) rfl;have d1:((t.r.putErr l)==0)=false:=by rw[qba];exact hE
 clear h m k hl;generalize t.r.putErr l=er at*;go_enter Tryz.func19,Tryz.ntmps19;go_wp2_with fail
 refine s.out.mono ?_;rintro e w0 ⟨rfl,f⟩;subst f;go_wp2_with fail
 refine j.out.mono ?_;rintro e w1 ⟨g',rfl,y,z⟩;have p:=zI (q.out w1 _ g' y (i.out.below z));have x:=zI z;clear y z;go_wp2_with fail
 refine p.out.mono ?_;rintro e w2 ⟨rfl,u⟩;have o:=zI (x.out.trans (u.mono x.out.size));clear u;go_wp2_with fail
 go_ret;exact⟨rfl,o.out⟩
set_option linter.unusedSimpArgs false in
theorem Jwf{F:Nat ->Prop}{g room:Nat}{t:Tv}{A:Option Addr}{n c:Nat}{l:List Smp}(w:World)(h:StAt w F g room t)(h1:1<=t.tabs.length)(h3:t.tabs.length<=1000)(hl:Smps w A n l)(hn:1<=n/\n<=8)(hfew:∀i,i<t.tabs.length ->(t.tab i).length<=900000)(hg:∀s∈l,t.r.Gets s)(hev:∀i,i<t.tabs.length -> -9223372036854775808<=t.r.ev i/\t.r.ev i<=9223372036854775807)(hf:(t.put l).Few)(hneed:(room:Int)<(t.put l).need):
  Calls Tryz.prog 19 #[.pointer (some ⟨g,0,none⟩),.slice A n c] w fun e w'=>e= .returned (.int .i64 20)/\Below w.heap.size w w':=by
 have Y:=zI (Jen w h)
 have L:AIn (fun b=>b<w.heap.size) A:=fun a e=>by
  obtain⟨b,off,e',I,_⟩:=hl.get (j:=0) (by rw[hl.len];exact hn.1);rw[e'] at e;cases e;exact I
 obtain⟨gt,FT,V,J,_,_⟩:=h.ex;have H:=zI (Jgj w J);have U:=zI (fun W F' g' (hT':Jae W F' g' t) (hl':Smps W A n l) (hA':AIn (fun b=> ¬ F' b) A)=>Jyj (c:=c) W hT' h1 hl' hA' hn hfew hg hev);have y:(t.put l).tabs.length=t.tabs.length:=t.put_len l;have m:=zI (fun W F' g' (hT':Jae W F' g' (t.put l))=>Jh2 W hT' (by rw[y];exact h1) hf);have u:=Jf0 hf (t.put l).tabs.length (qab _);have T:=zI (fun W=>Jn4 (t.put l).need W ⟨u.1,by have:=u.2;rw[y] at this;unfold Tv.need;rw[y];omega⟩);have G:=zI hl;have E:=zI L;have D:=zI V;have s1:=V.at_ 1 (v:= .pointer (some ⟨gt,0,none⟩)) rfl;have d1:decide ((room:Int)<(t.put l).need)=true:=qa0 hneed;have d2:(room:Int)<(t.put l).need:=hneed;clear h V J hf u hl L hfew hg hev y hneed hn;generalize t.put l=t2 at*;go_enter Tryz.func19,Tryz.ntmps19;go_wp2_with fail
 refine Y.out.mono ?_;rintro e w0 ⟨rfl,C⟩;subst C;go_wp2_with fail
 refine H.out.mono ?_;rintro e w1 ⟨g',rfl,k,q⟩;have R:=zI (U.out w1 _ g' k (G.out.below q) (fun a e hm=>by have:=E.out a e;have:=hm.1;omega));have P:=zI q;clear k q;go_wp2_with fail
 refine R.out.mono ?_;rintro e w2 ⟨rfl,f,d⟩;have p:=zI (Chg.made P.out d);have x:=zI (D.out.below p.out);have O:=zI (m.out w2.drew _ g' (f.below (qaa _ _).drew));clear f d s1;go_upto_region 7 with fail
 refine wp_region_held_drew (S:=(fun w'=>w'.cell? ⟨g,0,none⟩=some (.int .i64 (room:Int))/\w'.cell? ⟨g,2,none⟩=some (.pointer none)/\Below w2.heap.size w2 w')) (by kernel_rfl) ?_ (fun hHeld=> ?_)
 · exact⟨x.out.drew.at_ 0 rfl,x.out.drew.at_ 2 rfl,(qaa _ _).drew⟩
 refine wpAnyH_take (i:=0) (oi:=_) (v:= ?_) rfl (by kernel_rfl) (by kernel_rfl) (by kernel_rfl) (fun _ _ _ h=>h) (Or.inl ⟨by rfl,?y0⟩) (by assumption) ?_
 case y0=>intro w z;(try dsimp only at z);(go_simp<;>with_reducible rfl)
 try simp only[qcf,qcg,qch,Act.put,qci,qcj,qck]
 refine wpAnyH_take (i:=2) (oi:=_) (v:= ?_) rfl (by kernel_rfl) (by kernel_rfl) (by kernel_rfl) (fun _ _ _ h=>h) (Or.inl ⟨by rfl,?y2⟩) (by assumption) ?_
 case y2=>intro w z;(try dsimp only at z);(go_simp<;>with_reducible rfl)
 try simp only[qcf,qcg,qch,Act.put,qci,qcj,qck]
 refine wpAnyH_take (i:=3) (oi:=_) (v:= ?_) rfl (by kernel_rfl) (by kernel_rfl) (by kernel_rfl) (fun _ _ _ h=>h) (Or.inl ⟨by rfl,?y3⟩) (by assumption) ?_
 case y3=>intro w z;(try dsimp only at z);(go_simp<;>with_reducible rfl)
 try simp only[qcf,qcg,qch,Act.put,qci,qcj,qck]
 refine wpAnyH_take (i:=4) (oi:=_) (v:= ?_) rfl (by kernel_rfl) (by kernel_rfl) (by kernel_rfl) (fun _ _ _ h=>h) (Or.inl ⟨by rfl,?y4⟩) (by assumption) ?_
 case y4=>intro w z;(try dsimp only at z);(go_simp<;>with_reducible rfl)
 try simp only[qcf,qcg,qch,Act.put,qci,qcj,qck]
 refine wpAnyH_take (i:=5) (oi:=_) (v:= ?_) rfl (by kernel_rfl) (by kernel_rfl) (by kernel_rfl) (fun _ _ _ h=>h) (Or.inl ⟨by rfl,?y5⟩) (by assumption) ?_
 case y5=>intro w z;(try dsimp only at z);(go_simp<;>with_reducible rfl)
 try simp only[qcf,qcg,qch,Act.put,qci,qcj,qck]
 refine wpAnyH_take (i:=8) (oi:=_) (v:= ?_) rfl (by kernel_rfl) (by kernel_rfl) (by kernel_rfl) (fun _ _ _ h=>h) (Or.inl ⟨by rfl,?y8⟩) (by assumption) ?_
 case y8=>intro w z;(try dsimp only at z);(go_simp<;>with_reducible rfl)
 try simp only[qcf,qcg,qch,Act.put,qci,qcj,qck]
 refine wpAnyH_take (i:=9) (oi:=_) (v:= ?_) rfl (by kernel_rfl) (by kernel_rfl) (by kernel_rfl) (fun _ _ _ h=>h) (Or.inl ⟨by rfl,?y9⟩) (by assumption) ?_
 case y9=>intro w z;(try dsimp only at z);(go_simp<;>with_reducible rfl)
 try simp only[qcf,qcg,qch,Act.put,qci,qcj,qck]
 refine wpAnyH_take (i:=10) (oi:=_) (v:= ?_) rfl (by kernel_rfl) (by kernel_rfl) (by kernel_rfl) (fun _ _ _ h=>h) (Or.inl ⟨by rfl,?y10⟩) (by assumption) ?_
 case y10=>intro w z;(try dsimp only at z);(go_simp<;>with_reducible rfl)
 try simp only[qcf,qcg,qch,Act.put,qci,qcj,qck]
 refine wpAnyH_take (i:=11) (oi:=_) (v:= ?_) rfl (by kernel_rfl) (by kernel_rfl) (by kernel_rfl) (fun _ _ _ h=>h) (Or.inl ⟨by rfl,?y11⟩) (by assumption) ?_
 case y11=>intro w z;(try dsimp only at z);(go_simp<;>with_reducible rfl)
 try simp only[qcf,qcg,qch,Act.put,qci,qcj,qck]
 refine wpAnyH_take (i:=12) (oi:=_) (v:= ?_) rfl (by kernel_rfl) (by kernel_rfl) (by kernel_rfl) (fun _ _ _ h=>h) (Or.inl ⟨by rfl,?y12⟩) (by assumption) ?_
 case y12=>intro w z;(try dsimp only at z);(go_simp<;>with_reducible rfl)
 try simp only[qcf,qcg,qch,Act.put,qci,qcj,qck]
 refine wpAnyH_ready (rs:=[1]) (by kernel_rfl) (by simp) (AllReadyH.cons (o:=_) rfl (fun K hK=> ?_) AllReadyH.nil);go_simp
 go_at_call 32
 refine O.out.mono ?_;rintro e w3 ⟨rfl,Z⟩;refine hK.out _ _ ?_ (fun hHeld=> ?_)
 · (have N:=(qaa w2.heap.size w2).drew.trans Z;exact⟨(x.out.below N).at_ 0 rfl,(x.out.below N).at_ 2 rfl,N⟩)
 clear hK K
 try simp only[qcf,qcg,qch,Act.put,qci,qcj,qck]
 refine wpAnyH_ready (rs:=[6]) (by kernel_rfl) (by simp) (AllReadyH.cons (o:=_) rfl (fun K hK=> ?_) AllReadyH.nil);go_simp
 go_at_call 60
 refine(Jgk _).mono ?_;rintro e w4 ⟨rfl,rfl⟩;refine hK.out _ _ ?_ (fun hHeld=> ?_)
 · exact hHeld
 clear hK K
 try simp only[qcf,qcg,qch,Act.put,qci,qcj,qck]
 refine wpAnyH_ready (rs:=[7]) (by kernel_rfl) (by simp) (AllReadyH.cons (o:=_) rfl (fun K hK=> ?_) AllReadyH.nil);go_simp
 go_at_call 59
 refine(T.out _).mono ?_;rintro e w5 ⟨rfl,rfl⟩;refine hK.out _ _ ?_ (fun hHeld=> ?_)
 · exact hHeld
 clear hK K
 try simp only[qcf,qcg,qch,Act.put,qci,qcj,qck]
 refine wpAnyH_take (i:=13) (oi:=_) (v:= ?_) rfl (by kernel_rfl) (by kernel_rfl) (by kernel_rfl) (fun _ _ _ h=>h) (Or.inl ⟨by rfl,?y13⟩) (by assumption) ?_
 case y13=>intro w z;(try dsimp only at z);(go_simp<;>with_reducible rfl)
 try simp only[qcf,qcg,qch,Act.put,qci,qcj,qck]
 refine wpAnyH_take (i:=14) (oi:=_) (v:= ?_) rfl (by kernel_rfl) (by kernel_rfl) (by kernel_rfl) (fun _ _ _ h=>h) (Or.inl ⟨by rfl,?y14⟩) (by assumption) ?_
 case y14=>intro w z;(try dsimp only at z);(go_simp<;>with_reducible rfl)
 try simp only[qcf,qcg,qch,Act.put,qci,qcj,qck]
 refine wpAnyH_take (i:=15) (oi:=_) (v:=undef) rfl (by kernel_rfl) (by kernel_rfl) (by kernel_rfl) (fun _ _ _ h=>h) (Or.inr ⟨by rfl,rfl⟩) (by assumption) ?_
 try simp only[qcf,qcg,qch,Act.put,qci,qcj,qck]
 refine wpAnyH_take (i:=16) (oi:=_) (v:=undef) rfl (by kernel_rfl) (by kernel_rfl) (by kernel_rfl) (fun _ _ _ h=>h) (Or.inr ⟨by rfl,rfl⟩) (by assumption) ?_
 try simp only[qcf,qcg,qch,Act.put,qci,qcj,qck]
 refine wpAnyH_take (i:=17) (oi:=_) (v:=undef) rfl (by kernel_rfl) (by kernel_rfl) (by kernel_rfl) (fun _ _ _ h=>h) (Or.inr ⟨by rfl,rfl⟩) (by assumption) ?_
 try simp only[qcf,qcg,qch,Act.put,qci,qcj,qck]
 refine wpAnyH_take (i:=18) (oi:=_) (v:=undef) rfl (by kernel_rfl) (by kernel_rfl) (by kernel_rfl) (fun _ _ _ h=>h) (Or.inr ⟨by rfl,rfl⟩) (by assumption) ?_
 try simp only[qcf,qcg,qch,Act.put,qci,qcj,qck]
 refine wpAnyH_take (i:=19) (oi:=_) (v:=undef) rfl (by kernel_rfl) (by kernel_rfl) (by kernel_rfl) (fun _ _ _ h=>h) (Or.inr ⟨by rfl,rfl⟩) (by assumption) ?_
 try simp only[qcf,qcg,qch,Act.put,qci,qcj,qck]
 refine wpAnyH_take (i:=20) (oi:=_) (v:=undef) rfl (by kernel_rfl) (by kernel_rfl) (by kernel_rfl) (fun _ _ _ h=>h) (Or.inr ⟨by rfl,rfl⟩) (by assumption) ?_
 try simp only[qcf,qcg,qch,Act.put,qci,qcj,qck]
 refine wpAnyH_take (i:=21) (oi:=_) (v:=undef) rfl (by kernel_rfl) (by kernel_rfl) (by kernel_rfl) (fun _ _ _ h=>h) (Or.inr ⟨by rfl,rfl⟩) (by assumption) ?_
 try simp only[qcf,qcg,qch,Act.put,qci,qcj,qck]
 refine wpAnyH_take (i:=22) (oi:=_) (v:=undef) rfl (by kernel_rfl) (by kernel_rfl) (by kernel_rfl) (fun _ _ _ h=>h) (Or.inr ⟨by rfl,rfl⟩) (by assumption) ?_
 try simp only[qcf,qcg,qch,Act.put,qci,qcj,qck]
 refine wpAnyH_take (i:=23) (oi:=_) (v:=undef) rfl (by kernel_rfl) (by kernel_rfl) (by kernel_rfl) (fun _ _ _ h=>h) (Or.inr ⟨by rfl,rfl⟩) (by assumption) ?_
 try simp only[qcf,qcg,qch,Act.put,qci,qcj,qck]
 refine wpAnyH_take (i:=24) (oi:=_) (v:=undef) rfl (by kernel_rfl) (by kernel_rfl) (by kernel_rfl) (fun _ _ _ h=>h) (Or.inr ⟨by rfl,rfl⟩) (by assumption) ?_
 try simp only[qcf,qcg,qch,Act.put,qci,qcj,qck]
 refine wpAnyH_take (i:=25) (oi:=_) (v:=undef) rfl (by kernel_rfl) (by kernel_rfl) (by kernel_rfl) (fun _ _ _ h=>h) (Or.inr ⟨by rfl,rfl⟩) (by assumption) ?_
 try simp only[qcf,qcg,qch,Act.put,qci,qcj,qck]
 refine wpAnyH_take (i:=26) (oi:=_) (v:=undef) rfl (by kernel_rfl) (by kernel_rfl) (by kernel_rfl) (fun _ _ _ h=>h) (Or.inr ⟨by rfl,rfl⟩) (by assumption) ?_
 try simp only[qcf,qcg,qch,Act.put,qci,qcj,qck]
 refine wpAnyH_take (i:=27) (oi:=_) (v:=undef) rfl (by kernel_rfl) (by kernel_rfl) (by kernel_rfl) (fun _ _ _ h=>h) (Or.inr ⟨by rfl,rfl⟩) (by assumption) ?_
 try simp only[qcf,qcg,qch,Act.put,qci,qcj,qck]
 refine wpAnyH_take (i:=28) (oi:=_) (v:=undef) rfl (by kernel_rfl) (by kernel_rfl) (by kernel_rfl) (fun _ _ _ h=>h) (Or.inr ⟨by rfl,rfl⟩) (by assumption) ?_
 try simp only[qcf,qcg,qch,Act.put,qci,qcj,qck]
 refine wpAnyH_take (i:=29) (oi:=_) (v:= ?_) rfl (by kernel_rfl) (by kernel_rfl) (by kernel_rfl) (fun _ _ _ h=>h) (Or.inl ⟨by rfl,?y29⟩) (by assumption) ?_
 case y29=>intro w z;(try dsimp only at z);(go_simp<;>with_reducible rfl)
 try simp only[qcf,qcg,qch,Act.put,qci,qcj,qck]
 refine wpAnyH_done (by kernel_rfl) ?_ _;have M:=zI (p.out.trans (hHeld.2.2.mono p.out.size));clear hHeld Z;go_wp2_with fail
 go_ret;exact⟨rfl,M.out⟩
def Tv.atN (t:Tv) (now:Int):Tv:=⟨⟨now,t.r.nm,t.r.ts,t.r.fs⟩,t.tabs⟩
def Tv.trimTo (t:Tv):Nat ->Tv
 | 0=>t
 | k+1=>(t.trimTo k).setTab k ((t.tab k).filter fun r=> !decide (r.st<t.r.from_ k))
def Tv.tick (t:Tv) (n:Int):Tv:=(t.atN (t.r.now+n)).trimTo t.tabs.length
theorem Tv.trimTo_r(t:Tv):∀k,(t.trimTo k).r=t.r
 | 0=>rfl
 | k+1=>Tv.trimTo_r t k
theorem Tv.trimTo_len(t:Tv):∀k,(t.trimTo k).tabs.length=t.tabs.length
 | 0=>rfl
 | k+1=>by show((t.trimTo k).setTab k _).tabs.length=_;rw[Tv.setTab_len];exact Tv.trimTo_len t k
theorem Tv.trimTo_tab(t:Tv)(k i:Nat)(h:k<=i):(t.trimTo k).tab i=t.tab i:=by
 induction k with
 | zero=>rfl
 | succ k ih=>
   show((t.trimTo k).setTab k _).tab i=_;rw[Tv.setTab_other (by omega)];exact ih (by omega)
theorem Jae.timed{w:World}{F:Nat ->Prop}{g:Nat}{t:Tv}(h:Jae w F g t)(h1:1<=t.tabs.length)(hfs:t.r.fs.length≠1)(now:Int)(hn: -9223372036854775808<=now/\now<=9223372036854775807):Jae (w.setCell ⟨g,0,none⟩ (.int .i64 now)) F g (t.atN now)/\Chg F w (w.setCell ⟨g,0,none⟩ (.int .i64 now)):=by
 obtain⟨A,c,B,m,d,L,cl,ga,gm,l,y,T,S,f,Z,v⟩:=h.ex;have s:Chg (fun x=>x=g) w (w.setCell ⟨g,0,none⟩ (.int .i64 now)):=Chg.set _ _ _ rfl
 have key:∀ (o:Nat) (u:Value),w.cell? ⟨g,o,none⟩=some u ->(o=0/\u= .int .i64 t.r.now)\/(o=1/\u= .string t.r.nm)\/∃a b c,u= .slice a b c:=by
  intro o u z;rw[l.cell o] at z
  match o with
  | 0=>simp at z;exact .inl ⟨rfl,z.symm⟩
  | 1=>simp at z;exact .inr (.inl ⟨rfl,z.symm⟩)
  | 2=>simp at z;exact .inr (.inr ⟨_,_,_,z.symm⟩)
  | 3=>simp at z;exact .inr (.inr ⟨_,_,_,z.symm⟩)
  | 4=>simp at z;exact .inr (.inr ⟨_,_,_,z.symm⟩)
  | k+5=>simp at z
 have far:∀ {A:Option Addr} {xs:List Value},(∀o,(∀j u,xs[j]? =some u ->w.cell? ⟨g,o+j,none⟩=some u) ->xs=[]) ->Sl w A xs ->Sl (w.setCell ⟨g,0,none⟩ (.int .i64 now)) A xs:=by
  intro A xs Y R;refine⟨fun hx=> ?_⟩;obtain⟨b',o',e,q,n⟩:=R.at_ hx;have W:b'≠g:=fun e=>hx (Y o' (fun j u z=>by rw[<- e];exact n j u z));exact⟨b',o',e,qa6 q s.size,fun j u z=>(s.cell (p:=⟨b',o'+j,none⟩) q W).trans (n j u z)⟩
 have fA:Sl (w.setCell ⟨g,0,none⟩ (.int .i64 now)) A (t.r.ts.flatMap Ti.cells):=far (fun o hh=>by
  cases hts:t.r.ts with
  | nil=>rfl
  | cons a r=>
    rw[hts] at hh;rcases key _ _ (hh 0 (.string a.nm) rfl) with⟨_,e⟩ | ⟨e0,_⟩ | ⟨_,_,_,e⟩
    · cases e
    · rcases key _ _ (hh 1 (.int .i64 a.ev) rfl) with⟨e1,_⟩ | ⟨_,e⟩ | ⟨_,_,_,e⟩
      · omega
      · cases e
      · cases e
    · cases e) y.ts.sl
 have fB:Sl (w.setCell ⟨g,0,none⟩ (.int .i64 now)) B (t.r.fs.map (Value.int .i64)):=far (fun o hh=>by
  match hf:t.r.fs with
  | []=>rfl
  | [a]=>rw[hf] at hfs;exact absurd rfl hfs
  | a ::b::r=>
    rw[hf] at hh;rcases key _ _ (hh 0 (.int .i64 a) rfl) with⟨e0,_⟩ | ⟨_,e⟩ | ⟨_,_,_,e⟩
    · rcases key _ _ (hh 1 (.int .i64 b) rfl) with⟨e1,_⟩ | ⟨_,e⟩ | ⟨_,_,_,e⟩
      · omega
      · cases e
      · cases e
    · cases e
    · cases e) y.fs.sl
 have fL:Sl (w.setCell ⟨g,0,none⟩ (.int .i64 now)) L ((List.range t.tabs.length).map fun i=>ptrV (ga i)):=far (fun o hh=>by
  exfalso
  have P:((List.range t.tabs.length).map fun i=>ptrV (ga i))[0]? =some (ptrV (ga 0)):=by
   rw[qbx,qcp (by omega)];rfl
  rcases key _ _ (hh 0 _ P) with⟨_,e⟩ | ⟨_,e⟩ | ⟨_,_,_,e⟩<;>cases e) v.row
 have V:∀i,i<t.tabs.length ->ga i≠g:=fun i hi e=>by
  have:=(v.tab i hi).blk;rw[e,l.blk] at this;simp at this
 have U:∀i,i<t.tabs.length ->gm i≠g:=fun i hi e=>by
  obtain⟨D,⟨es,k,h1,_⟩,_⟩:=(v.tab i hi).map.own;rw[e,l.blk] at h1;cases h1
 refine⟨⟨⟨A,c,B,m,d,L,cl,ga,gm,l.set 0 _,⟨⟨fA,y.ts.len,y.ts.n_le,y.ts.ok⟩,⟨fB,y.fs.len,y.fs.n_le,y.fs.wf⟩,hn⟩,T,S,f,Z,⟨fL,fun i hi=>(v.tab i hi).chg s (V i hi) (U i hi),v.apart,v.ina,v.inl⟩⟩,h.g,h.ins.up s.size,h.few,h.nm⟩,s.sub (fun x e=>by rw[e];exact h.g)⟩
theorem J4o{F:Nat ->Prop}{g:Nat}{t:Tv}(k:Int)(w:World)(h:Jae w F g t)(h1:1<=t.tabs.length)(hk:0<=k/\t.r.now+k<=1099511627776)(hnow:0<=t.r.now/\t.r.now<=1099511627776)(hfs:t.r.fs.length≠1)(hfew:∀i,i<t.tabs.length ->(t.tab i).length<1000000):
  Calls Tryz.prog 47 #[.pointer (some ⟨g,0,none⟩),.int .i64 k] w fun e w'=>e= .returned (.int .i64 0)/\Jae w' F g (t.tick k)/\Chg F w w':=by
 have J:=zI (Jgh w h h1);obtain⟨A,c,B,m,d,L,cl,_,_,o,_⟩:=h.tabs;have x0:=o.at_ 0 (v:= .int .i64 t.r.now) rfl;have f0:=o.free 0;have b:=h.timed h1 hfs (t.r.now+k) (by omega);have I:=h.few;obtain⟨t1,z⟩:∃t1,t1=t.atN (t.r.now+k):=⟨_,rfl⟩;rw[<- z] at b;have n:=zI b;have H:=zI (show ∀i,i<t1.tabs.length ->(t1.tab i).length<1000000 from by rw[z];exact hfew);have y:=zI (show t1.tabs.length=t.tabs.length from by rw[z];rfl);have T:=zI (show t.tick k=t1.trimTo t.tabs.length from by rw[z];rfl);generalize t.r.now=now at*;obtain⟨N,hN⟩:∃N,N=t.tabs.length:=⟨_,rfl⟩;rw[<- hN] at h1 I y T;obtain⟨k1,k2⟩:=hk;obtain⟨n1,n2⟩:=hnow;have d1:decide (k<0)=false:=qat (by omega);have d2:decide (1099511627776 - now<k)=false:=qat (by omega);obtain⟨w1,Z⟩:∃w1,w1=w.setCell ⟨g,0,none⟩ (.int .i64 (now+k)):=⟨_,rfl⟩;rw[<- Z] at n;have G:=zI Z;obtain⟨b0,off0,cl0,_,_,c40,_⟩:=n.out.1.focus 0 (by rw[y.out];omega);rw[y.out] at c40;clear h o b hfs hfew z hN Z;go_enter Tryz.func47,Tryz.ntmps47;go_wp2_with fail
 refine J.out.mono ?_;rintro e w0 ⟨rfl,hw⟩;subst hw;go_upto_region 6 with fail
 rw[<- G.out];clear x0 f0 k1 k2 n1 n2 d1 d2;go_wp2_with fail
 go_loopw [38] (fun j wr=>∃i:Nat,i<=N/\j= .int .i64 (i:Int)/\Jae wr F g (t1.trimTo i)/\Chg F w wr/\wr.cell? ⟨g,4,none⟩=some (.slice (some ⟨b0,off0,none⟩) N cl0)) (fun j _=>N - (intOf j).toNat)
 case atStart=>exact⟨0,qak _,rfl,n.out.1,n.out.2,c40⟩
 case round=>
  clear c40;obtain⟨i,hi,rfl,U,K,l⟩:=hrel;by_cases S:i<N
  · have u:(t1.trimTo i).tabs.length=N:=by rw[Tv.trimTo_len,y.out]
    have f:=Tv.trimTo_r t1 i;obtain⟨b2,off2,cl2,ga,gm,c42,Hj,R,s,P,wand⟩:=U.focus i (by omega);rw[u] at c42;have E:=l.symm.trans c42;cases E
    obtain⟨A2,c2,B2,m2,d2,L2,cl3,_,_,o,Y,_⟩:=U.tabs;rw[u,f] at o Y;rw[f,Tv.trimTo_tab t1 i i (qab _)] at s;rw[f] at wand;have D:=zI (Jgz A2 N c2 B2 m2 d2 t1.r i wr Y (by omega) S);have C:=zI (fun W (hW:Below wr.heap.size wr W)=>Jnj (t1.r.from_ i) W (s.below hW) (H.out i (by rw[y.out];exact S)));have hJ:=zI wand;have Ha:=zI (show(t1.trimTo i).setTab i ((t1.tab i).filter fun r=> !decide (r.st<t1.r.from_ i))=t1.trimTo (i+1) from rfl);have V:=zI K;have Hb:=zI (show ∀ (wz:World),wz.heap[g]? =wr.heap[g]? ->wz.cell? ⟨g,4,none⟩=wr.cell? ⟨g,4,none⟩ from fun wz e=>qbl (w:=wr) (a:=⟨g,4,none⟩) e);have Hc:=zI l;have y0:=o.at_ 0 (v:= .int .i64 t1.r.now) rfl;have y1:=o.at_ 1 (v:= .string t1.r.nm) rfl;have y2:=o.at_ 2 (v:= .slice A2 N c2) rfl;have y3:=o.at_ 3 (v:= .slice B2 m2 d2) rfl;generalize t1.r.from_ i=fr at*;clear U K s P wand o Y c42 u f;go_wp2_with fail
    refine D.out.mono ?_;rintro e w2 ⟨rfl,q⟩;have Hd:=zI (C.out w2 q);have He:=zI q;clear q;go_wp2_with fail
    refine Hd.out.mono ?_;rintro e w3 ⟨rfl,O,M⟩;have p:=hJ.out w2 w3 _ He.out M O;rw[Ha.out] at p;have Hf:=zI p.1;have Hg:=zI (V.out.trans p.2.1 (fun x hx=> .inl hx));have Hh:=zI ((Hb.out w3 p.2.2).trans Hc.out);clear O M p y0 y1 y2 y3 R l;go_wp2_with fail
    go_roundw
    case rel=>exact⟨i+1,by omega,by go_num,Hf.out,Hg.out,Hh.out⟩
    case measure=>simp[intOf];omega
  · have Hi:i=N:=by omega
    subst Hi;rw[<- T.out] at U;have HT:=zI U;have V:=zI K;clear U K l;go_wp2_with fail
    go_ret;exact⟨rfl,HT.out,V.out⟩
theorem J01(p:Value)(w:World):Calls Tryz.prog 48 #[.pointer none,p] w fun e w'=>e= .returned (.int .i64 0)/\w=w':=by
 go_enter Tryz.func48,Tryz.ntmps48;go_wp2;go_ret;exact⟨rfl,rfl⟩
theorem J02{F:Nat ->Prop}{g room:Nat}{t:Tv}(k:Int)(w:World)(h:StAt w F g room t)(h1:1<=t.tabs.length)(hk:0<=k/\t.r.now+k<=1099511627776)(hnow:0<=t.r.now/\t.r.now<=1099511627776)(hfs:t.r.fs.length≠1)(hfew:∀i,i<t.tabs.length ->(t.tab i).length<1000000):
  Calls Tryz.prog 15 #[.pointer (some ⟨g,0,none⟩),.int .i64 k] w fun e w'=>e= .returned (.int .i64 0)/\StAt w' (grow F w w') g room (t.tick k)/\Chg F w w':=by
 have n:=zI (Jen w h);have m:=zI h;obtain⟨gt,FT,l,d,s,y⟩:=h.ex;have j:=zI (J4o k w d h1 hk hnow hfs hfew);have a:=zI l;have q:=zI s;have p:=zI y;have s1:=l.at_ 1 (v:= .pointer (some ⟨gt,0,none⟩)) rfl;clear h l d s y h1 hk hnow hfs hfew;go_enter Tryz.func15,Tryz.ntmps15;go_wp2_with fail
 refine n.out.mono ?_;rintro e w0 ⟨rfl,Z⟩;subst Z;go_wp2_with fail
 refine j.out.mono ?_;rintro e w1 ⟨rfl,o,x⟩;have z:=zI (a.out.chg x q.out);have f:=(qaa w1.heap.size w1).drew;have u:=x.then_below f;have c:=zI (show StAt w1.drew (grow F w w1.drew) g room (t.tick k)/\Chg F w w1.drew from⟨⟨⟨gt,FT,z.out.drew,o.below f,q.out,fun b hb=> .inl (p.out b hb)⟩,.inl m.out.g,m.out.ins.grow u.size,m.out.room⟩,u.sub p.out⟩);have z1:=z.out.at_ 1 (v:= .pointer (some ⟨gt,0,none⟩)) rfl;have z2:=z.out.at_ 2 (v:= .pointer none) rfl;have y1:=z.out.drew.at_ 1 (v:= .pointer (some ⟨gt,0,none⟩)) rfl;have y2:=z.out.drew.at_ 2 (v:= .pointer none) rfl;clear o x s1 f u;go_upto_region 6 with fail
 go_region_held3 (fun w'=>w'.cell? ⟨g,1,none⟩=some (.pointer (some ⟨gt,0,none⟩))/\w'.cell? ⟨g,2,none⟩=some (.pointer none))
  (exact⟨y1,y2⟩)
  (first
    | (go_at_call 48
       refine(J01 _ _).mono ?_;rintro e w2 ⟨rfl,rfl⟩))
 go_wp2_with fail
 go_ret;exact⟨rfl,c.out.1,c.out.2⟩
end Go.Proofs.YtglmhddbhhcjdaaGreatDoor
