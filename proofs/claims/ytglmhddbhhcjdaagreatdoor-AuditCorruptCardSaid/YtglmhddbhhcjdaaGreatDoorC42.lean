/- Laws that the walk of the last text wants. -/
import Derived.Test.YtglmhddbhhcjdaaGreatDoorC37
import Derived.Test.YtglmhddbhhcjdaaGreatDoorC36
set_option maxRecDepth 100000
set_option linter.unusedSimpArgs false
set_option maxHeartbeats 4000000
namespace Go.Proofs.YtglmhddbhhcjdaaGreatDoor
open Go.RowKit
section
variable {w0 w1 w w':World} {F:Nat ->Prop} {gl g N q fr n gen used recs:Nat} {f:Int ->Option ByteArray}
theorem LgW.back(h:LgW w1 F w gl g N q f fr n gen used recs)(hb:Below w0.heap.size w0 w1)(hi:Ins F w0)(hl:gl<w0.heap.size):LgW w0 F w gl g N q f fr n gen used recs:=
 ⟨h.dk.sub (fun _ x=>Jks x hb.size) (hi.grow (qax hb.size h.chg.size)),h.bx,Chg.after_below hb h.chg (fun _ x=> .inl x),hi,h.nf,hl⟩
end
theorem J5u{w:World}{gl g fr n gen used recs:Nat}(h:Bx w gl 286 (lgCs g fr n gen used recs))(hu:used<=n)(hn:n<=5000):
  Cs 262 #[gl] w (RB w ((n - used:Nat):Int)):=by
 have x2:=h.at_ 2 (v:= (n:Int)) rfl;have x4:=h.at_ 4 (v:= (used:Int)) rfl;have z:=zI (show(n:Int) - (used:Int)=((n - used:Nat):Int) from by omega);clear h;go_enter Tryz.func262,Tryz.ntmps262;go_upto_region 3 with fail
 go_quiet (fail)
 go_wp2_with fail
 go_ret;exact⟨by rw[<- z.out];rfl,below_drewN (qaa _ _) _⟩
theorem J5v{F:Nat ->Prop}{gl g N q fr n gen used recs:Nat}{f:Int ->Option ByteArray}(l:List UInt8)(w:World)(hD:DsAt w F g N q f)(hX:Bx w gl 286 (lgCs g fr n gen used recs))(hn: ¬ F gl)(hl:l.length<=3000)(hg:gen<18446744073709551616)(hr:recs<65000)(hfit:used+wlN l.length<=n)(hN:fr+n<=N)(hn5:n<=4096)(hq:q<=800000):
  Cs 179 #[gl,strOf l] w fun e w'=>e= .returned (0:Int)/\
   LgW w F w' gl g N (q+2*wlN l.length) (Jb9 f (fr+used) (wlL gen recs l)) fr n gen (used+wlN l.length) (recs+1):=by
 have y3:=hX.drew.at_ 3 (v:= .int .u64 (gen:Int)) rfl;have y5:=hX.drew.at_ 5 (v:= (recs:Int)) rfl;have Y:=zI hX;have o:=zI (J1s gen recs l w.drew (by omega) hg (by omega));have V:=zI (fun W (hW:Below w.heap.size w W)=>J5u (hX.below hW) (show used<=n by omega) (by omega));have B:=zI (fun W (hW:Below w.heap.size w W)=>LgW.start (hD.below hW) (hX.below hW) hn);have Hk:=hD.size;have U:=zI hD.ins;have T:=zI hX.lt;have Hl:=zI hn;have t:=Jd7 gen recs l
 have R:=zI (show ∀b∈wlL gen recs l,b.size=256 from fun b hb=>by
  unfold wlL at hb;obtain⟨p,_,rfl⟩:=qbn.1 hb;rw[Jaa,J5d _ _ _ _ (Jj5 l p)])
 obtain⟨bs,P⟩:=exE (wlL gen recs l);rw[<- P] at t o R ⊢;obtain⟨m,hm⟩:=exE (wlN l.length);rw[<- hm] at t hfit o ⊢;have O:=zI t;have Hm:(strOf l).size<=3000:=by rw[Jaa];exact hl
 have d1:decide ((3000:Int)<((strOf l).size:Int))=false:=qae (by omega);have d1':decide (3000<(strOf l).size)=false:=qae (by omega);have d2:decide (((n - used:Nat):Int)<(m:Int))=false:=qae (by omega);obtain⟨rm,M⟩:=exE (n - used);rw[<- M] at d2 V;have d2': ¬ ((rm:Int)<(m:Int)):=by omega
 have d2d:decide (rm<m)=false:=qae (by omega);have d2e: ¬ (rm<m):=by omega
 generalize strOf l=S at*;clear hD hX hn t P hm M;go_enter Tryz.func179,Tryz.ntmps179;go_upto_region 1 with fail
 go_region_held3 (fun w'=>w'.cell? ⟨gl,3,none⟩=some (.int .u64 (gen:Int))/\w'.cell? ⟨gl,5,none⟩=some (.int .i64 (recs:Int)))
  (first
    | exact⟨y3,y5⟩
    | exact⟨(Y.out.below z).at_ 3 rfl,(Y.out.below z).at_ 5 rfl⟩)
  (first
    | (go_at_call 261
       refine o.out.mono ?_;rintro e w1 ⟨v,rfl,y,r⟩;have z:Below w.heap.size w w1:=(qaa w.heap.size w).drew.trans (by simpa using r);have x:w1.ownsRow w.heap.size 9 1 v m (bs.map Value.string):=(by simpa using y);obtain⟨A,c,rfl,L⟩:=Jao x))
 clear y3 y5 y r;go_split_ands;have J:AIn (made w w1) A:=Jck x;have u:=zI z;have i:=zI L
 have hJ:=zI (show AIn (fun b=> ¬ (F b\/b=gl)) A from J.sub (fun b hb C=>by
  have h1:=hb.1;rcases C with C | C
  · have:=U.out b C;omega
  · have:=T.out;omega))
 have I:=zI (V.out w1 z);clear x z L J;go_wp2_with fail
 refine I.out.mono ?_;rintro e w2 ⟨rfl,h⟩;have i:=zI (i.out.below h);have u:=zI (u.out.trans (h.mono u.out.size));have Ha:=zI (B.out w2 u.out);clear h;go_wp2_with fail
 go_loopw [31] (fun j wr=>∃k:Nat,k<=m/\j= .int .i64 (k:Int)/\LgW w2 F wr gl g N (q+2*k) (Jb9 f (fr+used) (bs.take k)) fr n gen (used+k) recs) (fun j _=>m - (intOf j).toNat)
 case atStart=>exact⟨0,qaq _,rfl,Ha.out⟩
 case round=>
  obtain⟨k,hk,rfl,hg⟩:=hrel;by_cases Hb:k<m
  · have K:k<bs.length:=by rw[O.out];exact Hb
    have H:=i.out.chg hg.chg hJ.out;obtain⟨b,off,hA,Hc,hc⟩:=H.at_ (by intro e;have:=congrArg List.length e;rw[qa4] at this;simp at this;rw[this] at K;simp at K);have s1:=hc k (.string bs[k]) (by rw[qb3,qah K];rfl);have Hd:=zI (R.out _ (qan K))
    have d:=zI (show Jb9 f (fr+used) (bs.take (k+1))=setS (Jb9 f (fr+used) (bs.take k)) ((fr+(used+k):Nat):Int) bs[k] from by
     rw[qam K,Jlq,qao,Nat.min_eq_left (qcw K),qcd])
    generalize bs[k]'K=S1 at*;obtain⟨uk,G⟩:=exE (used+k);rw[<- G] at hg d;have a:=hg.below (qaa wr.heap.size wr).drew;obtain⟨x0,x1,_,_,x4,_,_⟩:=hg.cells;obtain⟨y0,y1,_,_,y4,_,_⟩:=a.cells;obtain⟨at_,hat⟩:=exE (fr+uk);have Hi:(fr:Int)+(uk:Int)=(at_:Int):=(by omega);have E:=zI (a.write at_ (by omega) S1 Hd.out (by omega));rw[<- hat] at d;rw[<- d.out] at E;have He:=zI (show(uk:Int)+1=((uk+1:Nat):Int) from by omega);have Hf:=zI (show uk+1=used+(k+1) from by omega);have Hn:uk+1<=5000:=(by omega);have Hj:at_<=10000:=(by omega);have Ho:IntKind.i64.wrap (at_:Int)=(at_:Int):=qbd _ (by omega);have s1D:wr.drew.cell? ⟨b,off+k,none⟩=some (.string S1):=s1;subst hA;clear H Hc hc hg a hat G;go_upto_region 9 with fail
    go_region_with (first
     | (go_at_call 28
        refine E.out.mono ?_;rintro e w3 ⟨rfl,s⟩))
    all_goals
     obtain⟨_,_,_,_,z4,_,_⟩:=s.cells;have Hp:=s.bx.free 4;have Z:=zI (s.setUsed (uk+1));rw[<- He.out] at Z;rw[Hf.out] at Z;clear s s1 s1D x0 x1 x4 y0 y1 y4;go_wp2_with fail
     go_roundw
     case rel=>exact⟨k+1,by omega,by go_num,by rw[show q+2*(k+1)=q+2*k+2 from by omega];exact Z.out⟩
     case measure=>simp[intOf];omega
  · have Hg:k=m:=by omega
    subst Hg;have HT:=zI (show bs.take k=bs from qap (by rw[O.out];exact qab _));rw[HT.out] at hg;obtain⟨_,_,_,_,_,x5,_⟩:=hg.cells;have Hq:=hg.bx.free 5;have Hh:=zI (show((recs:Nat):Int)+1=((recs+1:Nat):Int) from by omega);have D:=zI ((hg.setRecs (recs+1)).back u.out U.out T.out);rw[<- Hh.out] at D;have Hr:recs+1<=70000:=(by omega);clear hg;go_wp2_with fail
    go_ret;exact⟨rfl,D.out⟩
theorem J18{w:World}{gl g fr n gen used recs:Nat}(h:Bx w gl 286 (lgCs g fr n gen used recs)):
  Cs 178 #[gl] w (RS w (0:Int)):=by
 have x0:=h.at_ 0 (v:= g) rfl;have x6:=h.at_ 6 (v:= (0:Int)) rfl;clear h;go_enter Tryz.func178,Tryz.ntmps178;go_wp2_with fail
 go_ret;exact⟨rfl,rfl⟩
theorem J5w{w0 w:World}{F:Nat ->Prop}{gl g N q fr n gen used recs:Nat}{f:Int ->Option ByteArray}(h:LgW w0 F w gl g N q f fr n gen used recs):
  Cs 180 #[gl,(0:Int)] w fun e w'=>e= .returned (0:Int)/\LgW w0 F w' gl g N q f fr n gen used recs:=by
 have x6:=h.cells.2.2.2.2.2.2;have y:=h.bx.free 6;have z:=zI h.bad0;clear h;go_enter Tryz.func180,Tryz.ntmps180;go_wp2_with fail
 go_ret;exact⟨rfl,z.out⟩
theorem J81{F:Nat ->Prop}{gl g N q fr n gen used recs:Nat}{f:Int ->Option ByteArray}(l:List UInt8)(b:Nat)(w:World)(hD:DsAt w F g N q f)(hX:Bx w gl 286 (lgCs g fr n gen used recs))(hn: ¬ F gl)(hs:w.cell? ⟨b,0,none⟩=some (.string (strOf l)))(hl:l.length<=3000)(hg:gen<18446744073709551616)(hr:recs<65000)(hfit:used+wlN l.length<=n)(hN:fr+n<=N)(hn5:n<=4096)(hq:q<=800000):
  Cs 104 #[gl,.slice (some ⟨b,0,none⟩) 1 1] w fun e w'=>e= .returned (0:Int)/\
   LgW w F w' gl g N (q+2*wlN l.length) (Jb9 f (fr+used) (wlL gen recs l)) fr n gen (used+wlN l.length) (recs+1):=by
 have v:=zI (J18 hX);have u:=zI (J5v l w hD hX hn hl hg hr hfit hN hn5 hq);generalize strOf l=S at*;clear hD hX hn hl hg hr hfit hN hn5 hq;go_enter Tryz.func104,Tryz.ntmps104;go_wp2_with fail
 refine v.out.mono ?_;rintro e w1 ⟨rfl,x⟩;subst x;go_wp2_with fail
 go_loopw [16] (fun j wr=>(j= .int .i64 0/\w=wr)\/(j= .int .i64 1/\LgW w F wr gl g N (q+2*wlN l.length) (Jb9 f (fr+used) (wlL gen recs l)) fr n gen (used+wlN l.length) (recs+1))) (fun j _=>1 - (intOf j).toNat)
 case atStart=>exact .inl ⟨rfl,rfl⟩
 case round=>
  rcases hrel with⟨rfl,x⟩ | ⟨rfl,hg⟩
  · subst x
    go_wp2_with fail
    refine u.out.mono ?_;rintro e w2 ⟨rfl,y⟩;have z:=zI y;clear y hs;go_wp2_with fail
    go_roundw
    case rel=>exact .inr ⟨by first | rfl | go_num,z.out⟩
    case measure=>simp[intOf]
  · have z:=zI hg
    clear hg hs;go_wp2_with fail
    go_ret;exact⟨rfl,z.out⟩
theorem J19{F:Nat ->Prop}{gl g N q fr n gen used recs:Nat}{f:Int ->Option ByteArray}(w:World)(hD:DsAt w F g N q f)(hX:Bx w gl 286 (lgCs g fr n gen used recs))(hn: ¬ F gl)(hq:q<=800000):
  Cs 106 #[gl] w fun e w'=>e= .returned (0:Int)/\LgW w F w' gl g N q f fr n gen used recs:=by
 have s:=zI (J18 hX);have x:=LgW.start hD hX hn;have x0:=x.cells.1;have v:=zI (x.flush (by omega));clear hD hX hn x;go_enter Tryz.func106,Tryz.ntmps106;go_wp2_with fail
 refine s.out.mono ?_;rintro e w1 ⟨rfl,r⟩;subst r;go_wp2_with fail
 refine v.out.mono ?_;rintro e w2 ⟨rfl,z⟩;have u:=zI (J5w z);clear z x0;go_wp2_with fail
 refine u.out.mono ?_;rintro e w3 ⟨rfl,y⟩;have t:=zI y;clear y;go_wp2_with fail
 go_ret;exact⟨rfl,t.out⟩
section
variable {w:World} {g N C B D R gen id mp bk:Nat} {d:Addr} {lg:Option Addr} {bad:Int}
theorem J82(h:Bo w g (Jdm N C B D R d gen id mp bk lg bad)):
  Cs 136 #[g] w (RS w (.int .u64 (gen:Int))):=by
 have z:=zI (Jjw h);have x8:=h.at_ 8 (v:= .int .u64 (gen:Int)) rfl;clear h;go_enter Tryz.func136,Tryz.ntmps136;go_wp2_with fail
 refine z.out.mono ?_;rintro e w1 ⟨rfl,y⟩;subst y;go_wp2_with fail
 go_ret;exact⟨rfl,rfl⟩
end
theorem Jls{FB FD:Nat ->Prop}{gx N C B D R gd gen id mp bk q nP:Nat}{lg:Option Addr}{bad:Int}{pf:Nat ->Nat ->Option PRaw}{us:List Int}{a b m:Option (List Int)}{f:Int ->Option ByteArray}(s:ByteArray)(w:World)(h:SvS w FB FD gx N C B D R gd gen id mp bk q nP lg bad pf us a b m f)(hs:s.size<=maxLen):
  Cs 26 #[gx,s] w fun e w'=>∃v,e= .returned v/\w'.ownsRow w.heap.size 3 1 v (Led.heldV (Led.w3 a b m) s.data.toList).length ((Led.heldV (Led.w3 a b m) s.data.toList).map (Value.int .i64))/\Below w.heap.size w w':=by
 have x:=zI (Jjw h.box);have u:=zI (Led.holds_b s w h.book hs);have x11:=h.box.at_ 11 (v:= bk) rfl;clear h hs;go_enter Tryz.func26,Tryz.ntmps26;go_wp2_with fail
 refine x.out.mono ?_;rintro e w1 ⟨rfl,t⟩;subst t;go_wp2_with fail
 refine u.out.mono ?_;rintro e w1 ⟨v,rfl,z,y⟩;have r:=zI z;have p:=zI y;clear z y x11;go_wp2_with fail
 go_ret;exact⟨v,rfl,r.out,p.out⟩
theorem J2a{F:Nat ->Prop}{g room:Nat}{t:Tv}{A:Option Addr}{n c:Nat}{l:List Smp}(w:World)(h:StAt w F g room t)(h1:1<=t.tabs.length)(hl:Smps w A n l)(hE:t.r.putErr l≠0):
  Cs 19 #[g,.slice A n c] w (RB w (t.r.putErr l:Int)):=by
 have s:=zI (Jev w h);obtain⟨gt,FT,m,k,_,_⟩:=h.ex;have j:=zI (Jic w k);have q:=zI (fun W F' g' (hT':Jag W F' g' t) (hl':Smps W A n l)=>J44 (c:=c) W hT' h1 hl' hE);have i:=zI hl;have s1:=m.at_ 1 (v:= gt) rfl;have d1:((t.r.putErr l)==0)=false:=by rw[qat];exact hE
 clear h m k hl;generalize t.r.putErr l=er at*;go_enter Tryz.func19,Tryz.ntmps19;go_wp2_with fail
 refine s.out.mono ?_;rintro e w0 ⟨rfl,f⟩;subst f;go_wp2_with fail
 refine j.out.mono ?_;rintro e w1 ⟨g',rfl,y,z⟩;have p:=zI (q.out w1 _ g' y (i.out.below z));have x:=zI z;clear y z;go_wp2_with fail
 refine p.out.mono ?_;rintro e w2 ⟨rfl,u⟩;have o:=zI (x.out.trans (u.mono x.out.size));clear u;go_wp2_with fail
 go_ret;exact⟨rfl,o.out⟩
set_option linter.unusedSimpArgs false in
theorem Jxk{F:Nat ->Prop}{g room:Nat}{t:Tv}{A:Option Addr}{n c:Nat}{l:List Smp}(w:World)(h:StAt w F g room t)(h1:1<=t.tabs.length)(h3:t.tabs.length<=1000)(hl:Smps w A n l)(hn:1<=n/\n<=8)(hfew:∀i,i<t.tabs.length ->(t.tab i).length<=900000)(hg:∀s∈l,t.r.Gets s)(hev:∀i,i<t.tabs.length -> -9223372036854775808<=t.r.ev i/\t.r.ev i<=9223372036854775807)(hf:(t.put l).Few)(hneed:(room:Int)<(t.put l).need):
  Cs 19 #[g,.slice A n c] w (RB w (20:Int)):=by
 have Y:=zI (Jev w h)
 have L:AIn (fun b=>b<w.heap.size) A:=fun a e=>by
  obtain⟨b,off,e',I,_⟩:=hl.get (j:=0) (by rw[hl.len];exact hn.1);rw[e'] at e;cases e;exact I
 obtain⟨gt,FT,V,J,_,_⟩:=h.ex;have H:=zI (Jic w J);have U:=zI (fun W F' g' (hT':Jag W F' g' t) (hl':Smps W A n l) (hA':AIn (fun b=> ¬ F' b) A)=>Jzq (c:=c) W hT' h1 hl' hA' hn hfew hg hev);have y:(t.put l).tabs.length=t.tabs.length:=t.put_len l;have m:=zI (fun W F' g' (hT':Jag W F' g' (t.put l))=>Jjz W hT' (by rw[y];exact h1) hf);have u:=Jf7 hf (t.put l).tabs.length (qab _);have T:=zI (fun W=>Joo (t.put l).need W ⟨u.1,by have:=u.2;rw[y] at this;unfold Tv.need;rw[y];omega⟩);have G:=zI hl;have E:=zI L;have D:=zI V;have s1:=V.at_ 1 (v:= gt) rfl;have d1:decide ((room:Int)<(t.put l).need)=true:=qaj hneed;have d2:(room:Int)<(t.put l).need:=hneed;clear h V J hf u hl L hfew hg hev y hneed hn;generalize t.put l=t2 at*;go_enter Tryz.func19,Tryz.ntmps19;go_wp2_with fail
 refine Y.out.mono ?_;rintro e w0 ⟨rfl,C⟩;subst C;go_wp2_with fail
 refine H.out.mono ?_;rintro e w1 ⟨g',rfl,k,q⟩;have R:=zI (U.out w1 _ g' k (G.out.below q) (fun a e hm=>by have:=E.out a e;have:=hm.1;omega));have P:=zI q;clear k q;go_wp2_with fail
 refine R.out.mono ?_;rintro e w2 ⟨rfl,f,d⟩;have p:=zI (Chg.made P.out d);have x:=zI (D.out.below p.out);have O:=zI (m.out w2.drew _ g' (f.below (qaa _ _).drew));clear f d s1;go_upto_region 7 with fail
 refine wp_region_held_drew (S:=(fun w'=>w'.cell? ⟨g,0,none⟩=some (.int .i64 (room:Int))/\w'.cell? ⟨g,2,none⟩=some (.pointer none)/\Below w2.heap.size w2 w')) (by kernel_rfl) ?_ (fun hHeld=> ?_)
 · exact⟨x.out.drew.at_ 0 rfl,x.out.drew.at_ 2 rfl,(qaa _ _).drew⟩
 refine tkE 0 ?_
 try simp only[qai,qag,qaf,Act.put,qac,qak,qal]
 refine tkE 2 ?_
 try simp only[qai,qag,qaf,Act.put,qac,qak,qal]
 refine tkE 3 ?_
 try simp only[qai,qag,qaf,Act.put,qac,qak,qal]
 refine tkE 4 ?_
 try simp only[qai,qag,qaf,Act.put,qac,qak,qal]
 refine tkE 5 ?_
 try simp only[qai,qag,qaf,Act.put,qac,qak,qal]
 refine tkE 8 ?_
 try simp only[qai,qag,qaf,Act.put,qac,qak,qal]
 refine tkE 9 ?_
 try simp only[qai,qag,qaf,Act.put,qac,qak,qal]
 refine tkE 10 ?_
 try simp only[qai,qag,qaf,Act.put,qac,qak,qal]
 refine tkE 11 ?_
 try simp only[qai,qag,qaf,Act.put,qac,qak,qal]
 refine tkE 12 ?_
 try simp only[qai,qag,qaf,Act.put,qac,qak,qal]
 refine wpAnyH_ready (rs:=[1]) (by kernel_rfl) (by simp) (AllReadyH.cons (o:=_) rfl (fun K hK=> ?_) AllReadyH.nil);go_simp
 go_at_call 32
 refine O.out.mono ?_;rintro e w3 ⟨rfl,Z⟩;refine hK.out _ _ ?_ (fun hHeld=> ?_)
 · (have N:=(qaa w2.heap.size w2).drew.trans Z;exact⟨(x.out.below N).at_ 0 rfl,(x.out.below N).at_ 2 rfl,N⟩)
 clear hK K
 try simp only[qai,qag,qaf,Act.put,qac,qak,qal]
 refine wpAnyH_ready (rs:=[6]) (by kernel_rfl) (by simp) (AllReadyH.cons (o:=_) rfl (fun K hK=> ?_) AllReadyH.nil);go_simp
 go_at_call 60
 refine(Jgq _).mono ?_;rintro e w4 ⟨rfl,rfl⟩;refine hK.out _ _ ?_ (fun hHeld=> ?_)
 · exact hHeld
 clear hK K
 try simp only[qai,qag,qaf,Act.put,qac,qak,qal]
 refine wpAnyH_ready (rs:=[7]) (by kernel_rfl) (by simp) (AllReadyH.cons (o:=_) rfl (fun K hK=> ?_) AllReadyH.nil);go_simp
 go_at_call 59
 refine(T.out _).mono ?_;rintro e w5 ⟨rfl,rfl⟩;refine hK.out _ _ ?_ (fun hHeld=> ?_)
 · exact hHeld
 clear hK K
 try simp only[qai,qag,qaf,Act.put,qac,qak,qal]
 refine tkE 13 ?_
 try simp only[qai,qag,qaf,Act.put,qac,qak,qal]
 refine tkE 14 ?_
 try simp only[qai,qag,qaf,Act.put,qac,qak,qal]
 refine skE 15 ?_
 try simp only[qai,qag,qaf,Act.put,qac,qak,qal]
 refine skE 16 ?_
 try simp only[qai,qag,qaf,Act.put,qac,qak,qal]
 refine skE 17 ?_
 try simp only[qai,qag,qaf,Act.put,qac,qak,qal]
 refine skE 18 ?_
 try simp only[qai,qag,qaf,Act.put,qac,qak,qal]
 refine skE 19 ?_
 try simp only[qai,qag,qaf,Act.put,qac,qak,qal]
 refine skE 20 ?_
 try simp only[qai,qag,qaf,Act.put,qac,qak,qal]
 refine skE 21 ?_
 try simp only[qai,qag,qaf,Act.put,qac,qak,qal]
 refine skE 22 ?_
 try simp only[qai,qag,qaf,Act.put,qac,qak,qal]
 refine skE 23 ?_
 try simp only[qai,qag,qaf,Act.put,qac,qak,qal]
 refine skE 24 ?_
 try simp only[qai,qag,qaf,Act.put,qac,qak,qal]
 refine skE 25 ?_
 try simp only[qai,qag,qaf,Act.put,qac,qak,qal]
 refine skE 26 ?_
 try simp only[qai,qag,qaf,Act.put,qac,qak,qal]
 refine skE 27 ?_
 try simp only[qai,qag,qaf,Act.put,qac,qak,qal]
 refine skE 28 ?_
 try simp only[qai,qag,qaf,Act.put,qac,qak,qal]
 refine tkE 29 ?_
 try simp only[qai,qag,qaf,Act.put,qac,qak,qal]
 refine wpAnyH_done (by kernel_rfl) ?_ _;have M:=zI (p.out.trans (hHeld.2.2.mono p.out.size));clear hHeld Z;go_wp2_with fail
 go_ret;exact⟨rfl,M.out⟩
def Tv.atN (t:Tv) (now:Int):Tv:=⟨⟨now,t.r.nm,t.r.ts,t.r.fs⟩,t.tabs⟩
def Tv.trimTo (t:Tv):Nat ->Tv
 | 0=>t
 | k+1=>(t.trimTo k).setTab k ((t.tab k).filter fun r=> !decide (r.st<t.r.from_ k))
def Tv.tick (t:Tv) (n:Int):Tv:=(t.atN (t.r.now+n)).trimTo t.tabs.length
theorem Tv.trimTo_r(t:Tv):∀k,(t.trimTo k).r=t.r
 | 0=>rfl
 | k+1=>Tv.trimTo_r t k
theorem Tv.trimTo_len(t:Tv):∀k,(t.trimTo k).tabs.length=t.tabs.length
 | 0=>rfl
 | k+1=>by show((t.trimTo k).setTab k _).tabs.length=_;rw[Tv.setTab_len];exact Tv.trimTo_len t k
theorem Tv.trimTo_tab(t:Tv)(k i:Nat)(h:k<=i):(t.trimTo k).tab i=t.tab i:=by
 induction k with
 | zero=>rfl
 | succ k ih=>
   show((t.trimTo k).setTab k _).tab i=_;rw[Tv.setTab_other (by omega)];exact ih (by omega)
theorem Jag.timed{w:World}{F:Nat ->Prop}{g:Nat}{t:Tv}(h:Jag w F g t)(h1:1<=t.tabs.length)(hfs:t.r.fs.length≠1)(now:Int)(hn: -9223372036854775808<=now/\now<=9223372036854775807):Jag (w.setCell ⟨g,0,none⟩ (now:Int)) F g (t.atN now)/\Chg F w (w.setCell ⟨g,0,none⟩ (now:Int)):=by
 obtain⟨A,c,B,m,d,L,cl,ga,gm,l,y,T,S,f,Z,v⟩:=h.ex;have s:Chg (fun x=>x=g) w (w.setCell ⟨g,0,none⟩ (now:Int)):=Chg.set _ _ _ rfl
 have key:∀ (o:Nat) (u:Value),w.cell? ⟨g,o,none⟩=some u ->(o=0/\u= .int .i64 t.r.now)\/(o=1/\u= .string t.r.nm)\/∃a b c,u= .slice a b c:=by
  intro o u z;rw[l.cell o] at z
  match o with
  | 0=>simp at z;exact .inl ⟨rfl,z.symm⟩
  | 1=>simp at z;exact .inr (.inl ⟨rfl,z.symm⟩)
  | 2=>simp at z;exact .inr (.inr ⟨_,_,_,z.symm⟩)
  | 3=>simp at z;exact .inr (.inr ⟨_,_,_,z.symm⟩)
  | 4=>simp at z;exact .inr (.inr ⟨_,_,_,z.symm⟩)
  | k+5=>simp at z
 have far:∀ {A:Option Addr} {xs:List Value},(∀o,(∀j u,xs[j]? =some u ->w.cell? ⟨g,o+j,none⟩=some u) ->xs=[]) ->Sl w A xs ->Sl (w.setCell ⟨g,0,none⟩ (now:Int)) A xs:=by
  intro A xs Y R;refine⟨fun hx=> ?_⟩;obtain⟨b',o',e,q,n⟩:=R.at_ hx;have W:b'≠g:=fun e=>hx (Y o' (fun j u z=>by rw[<- e];exact n j u z));exact⟨b',o',e,qar q s.size,fun j u z=>(s.cell (p:=⟨b',o'+j,none⟩) q W).trans (n j u z)⟩
 have fA:Sl (w.setCell ⟨g,0,none⟩ (now:Int)) A (t.r.ts.flatMap Ti.cells):=far (fun o hh=>by
  cases hts:t.r.ts with
  | nil=>rfl
  | cons a r=>
    rw[hts] at hh;rcases key _ _ (hh 0 a.nm rfl) with⟨_,e⟩ | ⟨e0,_⟩ | ⟨_,_,_,e⟩
    · cases e
    · rcases key _ _ (hh 1 (a.ev:Int) rfl) with⟨e1,_⟩ | ⟨_,e⟩ | ⟨_,_,_,e⟩
      · omega
      · cases e
      · cases e
    · cases e) y.ts.sl
 have fB:Sl (w.setCell ⟨g,0,none⟩ (now:Int)) B (t.r.fs.map (Value.int .i64)):=far (fun o hh=>by
  match hf:t.r.fs with
  | []=>rfl
  | [a]=>rw[hf] at hfs;exact absurd rfl hfs
  | a ::b::r=>
    rw[hf] at hh;rcases key _ _ (hh 0 (a:Int) rfl) with⟨e0,_⟩ | ⟨_,e⟩ | ⟨_,_,_,e⟩
    · rcases key _ _ (hh 1 (b:Int) rfl) with⟨e1,_⟩ | ⟨_,e⟩ | ⟨_,_,_,e⟩
      · omega
      · cases e
      · cases e
    · cases e
    · cases e) y.fs.sl
 have fL:Sl (w.setCell ⟨g,0,none⟩ (now:Int)) L ((List.range t.tabs.length).map fun i=>ptrV (ga i)):=far (fun o hh=>by
  exfalso
  have P:((List.range t.tabs.length).map fun i=>ptrV (ga i))[0]? =some (ptrV (ga 0)):=by
   rw[qb3,qde (by omega)];rfl
  rcases key _ _ (hh 0 _ P) with⟨_,e⟩ | ⟨_,e⟩ | ⟨_,_,_,e⟩<;>cases e) v.row
 have V:∀i,i<t.tabs.length ->ga i≠g:=fun i hi e=>by
  have:=(v.tab i hi).blk;rw[e,l.blk] at this;simp at this
 have U:∀i,i<t.tabs.length ->gm i≠g:=fun i hi e=>by
  obtain⟨D,⟨es,k,h1,_⟩,_⟩:=(v.tab i hi).map.own;rw[e,l.blk] at h1;cases h1
 refine⟨⟨⟨A,c,B,m,d,L,cl,ga,gm,l.set 0 _,⟨⟨fA,y.ts.len,y.ts.n_le,y.ts.ok⟩,⟨fB,y.fs.len,y.fs.n_le,y.fs.wf⟩,hn⟩,T,S,f,Z,⟨fL,fun i hi=>(v.tab i hi).chg s (V i hi) (U i hi),v.apart,v.ina,v.inl⟩⟩,h.g,h.ins.up s.size,h.few,h.nm⟩,s.sub (fun x e=>by rw[e];exact h.g)⟩
theorem J5x{F:Nat ->Prop}{g:Nat}{t:Tv}(k:Int)(w:World)(h:Jag w F g t)(h1:1<=t.tabs.length)(hk:0<=k/\t.r.now+k<=1099511627776)(hnow:0<=t.r.now/\t.r.now<=1099511627776)(hfs:t.r.fs.length≠1)(hfew:∀i,i<t.tabs.length ->(t.tab i).length<1000000):
  Cs 47 #[g,(k:Int)] w fun e w'=>e= .returned (0:Int)/\Jag w' F g (t.tick k)/\Chg F w w':=by
 have J:=zI (Jgo w h h1);obtain⟨A,c,B,m,d,L,cl,_,_,o,_⟩:=h.tabs;have x0:=o.at_ 0 (v:= (t.r.now:Int)) rfl;have f0:=o.free 0;have b:=h.timed h1 hfs (t.r.now+k) (by omega);have I:=h.few;obtain⟨t1,z⟩:=exE (t.atN (t.r.now+k));rw[<- z] at b;have n:=zI b;have H:=zI (show ∀i,i<t1.tabs.length ->(t1.tab i).length<1000000 from by rw[z];exact hfew);have y:=zI (show t1.tabs.length=t.tabs.length from by rw[z];rfl);have T:=zI (show t.tick k=t1.trimTo t.tabs.length from by rw[z];rfl);generalize t.r.now=now at*;obtain⟨N,hN⟩:=exE t.tabs.length;rw[<- hN] at h1 I y T;obtain⟨k1,k2⟩:=hk;obtain⟨n1,n2⟩:=hnow;have d1:decide (k<0)=false:=qae (by omega);have d2:decide (1099511627776 - now<k)=false:=qae (by omega);obtain⟨w1,Z⟩:=exE (w.setCell ⟨g,0,none⟩ (now+k:Int));rw[<- Z] at n;have G:=zI Z;obtain⟨b0,off0,cl0,_,_,c40,_⟩:=n.out.1.focus 0 (by rw[y.out];omega);rw[y.out] at c40;clear h o b hfs hfew z hN Z;go_enter Tryz.func47,Tryz.ntmps47;go_wp2_with fail
 refine J.out.mono ?_;rintro e w0 ⟨rfl,hw⟩;subst hw;go_upto_region 6 with fail
 rw[<- G.out];clear x0 f0 k1 k2 n1 n2 d1 d2;go_wp2_with fail
 go_loopw [38] (fun j wr=>∃i:Nat,i<=N/\j= .int .i64 (i:Int)/\Jag wr F g (t1.trimTo i)/\Chg F w wr/\wr.cell? ⟨g,4,none⟩=some (.slice (some ⟨b0,off0,none⟩) N cl0)) (fun j _=>N - (intOf j).toNat)
 case atStart=>exact⟨0,qaq _,rfl,n.out.1,n.out.2,c40⟩
 case round=>
  clear c40;obtain⟨i,hi,rfl,U,K,l⟩:=hrel;by_cases S:i<N
  · have u:(t1.trimTo i).tabs.length=N:=by rw[Tv.trimTo_len,y.out]
    have f:=Tv.trimTo_r t1 i;obtain⟨b2,off2,cl2,ga,gm,c42,Hj,R,s,P,wand⟩:=U.focus i (by omega);rw[u] at c42;have E:=l.symm.trans c42;cases E
    obtain⟨A2,c2,B2,m2,d2,L2,cl3,_,_,o,Y,_⟩:=U.tabs;rw[u,f] at o Y;rw[f,Tv.trimTo_tab t1 i i (qab _)] at s;rw[f] at wand;have D:=zI (Jg8 A2 N c2 B2 m2 d2 t1.r i wr Y (by omega) S);have C:=zI (fun W (hW:Below wr.heap.size wr W)=>Jn2 (t1.r.from_ i) W (s.below hW) (H.out i (by rw[y.out];exact S)));have hJ:=zI wand;have Ha:=zI (show(t1.trimTo i).setTab i ((t1.tab i).filter fun r=> !decide (r.st<t1.r.from_ i))=t1.trimTo (i+1) from rfl);have V:=zI K;have Hb:=zI (show ∀ (wz:World),wz.heap[g]? =wr.heap[g]? ->wz.cell? ⟨g,4,none⟩=wr.cell? ⟨g,4,none⟩ from fun wz e=>qbk (w:=wr) (a:=⟨g,4,none⟩) e);have Hc:=zI l;have y0:=o.at_ 0 (v:= (t1.r.now:Int)) rfl;have y1:=o.at_ 1 (v:= t1.r.nm) rfl;have y2:=o.at_ 2 (v:= .slice A2 N c2) rfl;have y3:=o.at_ 3 (v:= .slice B2 m2 d2) rfl;generalize t1.r.from_ i=fr at*;clear U K s P wand o Y c42 u f;go_wp2_with fail
    refine D.out.mono ?_;rintro e w2 ⟨rfl,q⟩;have Hd:=zI (C.out w2 q);have He:=zI q;clear q;go_wp2_with fail
    refine Hd.out.mono ?_;rintro e w3 ⟨rfl,O,M⟩;have p:=hJ.out w2 w3 _ He.out M O;rw[Ha.out] at p;have Hf:=zI p.1;have Hg:=zI (V.out.trans p.2.1 (fun x hx=> .inl hx));have Hh:=zI ((Hb.out w3 p.2.2).trans Hc.out);clear O M p y0 y1 y2 y3 R l;go_wp2_with fail
    go_roundw
    case rel=>exact⟨i+1,by omega,by go_num,Hf.out,Hg.out,Hh.out⟩
    case measure=>simp[intOf];omega
  · have Hi:i=N:=by omega
    subst Hi;rw[<- T.out] at U;have HT:=zI U;have V:=zI K;clear U K l;go_wp2_with fail
    go_ret;exact⟨rfl,HT.out,V.out⟩
theorem J2b(p:Value)(w:World):Cs 48 #[.pointer none,p] w (RS w (0:Int)):=by
 go_enter Tryz.func48,Tryz.ntmps48;go_wp2;go_ret;exact⟨rfl,rfl⟩
theorem J2c{F:Nat ->Prop}{g room:Nat}{t:Tv}(k:Int)(w:World)(h:StAt w F g room t)(h1:1<=t.tabs.length)(hk:0<=k/\t.r.now+k<=1099511627776)(hnow:0<=t.r.now/\t.r.now<=1099511627776)(hfs:t.r.fs.length≠1)(hfew:∀i,i<t.tabs.length ->(t.tab i).length<1000000):
  Cs 15 #[g,(k:Int)] w fun e w'=>e= .returned (0:Int)/\StAt w' (grow F w w') g room (t.tick k)/\Chg F w w':=by
 have n:=zI (Jev w h);have m:=zI h;obtain⟨gt,FT,l,d,s,y⟩:=h.ex;have j:=zI (J5x k w d h1 hk hnow hfs hfew);have a:=zI l;have q:=zI s;have p:=zI y;have s1:=l.at_ 1 (v:= gt) rfl;clear h l d s y h1 hk hnow hfs hfew;go_enter Tryz.func15,Tryz.ntmps15;go_wp2_with fail
 refine n.out.mono ?_;rintro e w0 ⟨rfl,Z⟩;subst Z;go_wp2_with fail
 refine j.out.mono ?_;rintro e w1 ⟨rfl,o,x⟩;have z:=zI (a.out.chg x q.out);have f:=(qaa w1.heap.size w1).drew;have u:=x.then_below f;have c:=zI (show StAt w1.drew (grow F w w1.drew) g room (t.tick k)/\Chg F w w1.drew from⟨⟨⟨gt,FT,z.out.drew,o.below f,q.out,fun b hb=> .inl (p.out b hb)⟩,.inl m.out.g,m.out.ins.grow u.size,m.out.room⟩,u.sub p.out⟩);have z1:=z.out.at_ 1 (v:= gt) rfl;have z2:=z.out.at_ 2 (v:= .pointer none) rfl;have y1:=z.out.drew.at_ 1 (v:= gt) rfl;have y2:=z.out.drew.at_ 2 (v:= .pointer none) rfl;clear o x s1 f u;go_upto_region 6 with fail
 go_region_held3 (fun w'=>w'.cell? ⟨g,1,none⟩=some (.pointer (some ⟨gt,0,none⟩))/\w'.cell? ⟨g,2,none⟩=some (.pointer none))
  (exact⟨y1,y2⟩)
  (first
    | (go_at_call 48
       refine(J2b _ _).mono ?_;rintro e w2 ⟨rfl,rfl⟩))
 go_wp2_with fail
 go_ret;exact⟨rfl,c.out.1,c.out.2⟩
set_option linter.unusedSimpArgs false in
theorem Jvm(w:World):Cs 69 #[.pointer none] w (RB w (.tuple #[.pointer none,.pointer none,(),(1:Int)])):=by
 have z:=zI (qaa w.heap.size w);go_enter Tryz.func69,Tryz.ntmps69;go_wp2_with fail
 exact qa6 (v:= .tuple #[.pointer none,.pointer none,(),(1:Int)]) (by simp[results,Tryz.results69,go_sem]) rfl ⟨rfl,z.out⟩
