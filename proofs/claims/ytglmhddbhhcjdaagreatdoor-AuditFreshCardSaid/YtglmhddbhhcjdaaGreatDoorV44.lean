/-
  Several texts in one: Walap, StaE, StaD, SmpG, Oprd, Opone, Opapp, Twin, TwinK.
-/
import Derived.Test.YtglmhddbhhcjdaaGreatDoorV40
import Derived.Test.YtglmhddbhhcjdaaGreatDoorV32
set_option maxRecDepth 100000
set_option linter.unusedSimpArgs false
set_option maxHeartbeats 4000000
namespace Go.Proofs.YtglmhddbhhcjdaaGreatDoor
open Go.RowKit
section
variable {w0 w1 w w':World} {F:Nat ->Prop} {gl g N q fr n gen used recs:Nat} {f:Int ->Option ByteArray}
theorem LgW.back(h:LgW w1 F w gl g N q f fr n gen used recs)(hb:Below w0.heap.size w0 w1)(hi:Ins F w0)(hl:gl<w0.heap.size):LgW w0 F w gl g N q f fr n gen used recs:=
 ⟨h.dk.sub (fun _ x=>Jfm x hb.size) (hi.grow (qat hb.size h.chg.size)),h.bx,Chg.after_below hb h.chg (fun _ x=> .inl x),hi,h.nf,hl⟩
end
theorem J42{w:World}{gl g fr n gen used recs:Nat}(h:Bx w gl 286 (lgCs g fr n gen used recs))(hu:used<=n)(hn:n<=5000):
  Cs 262 #[gl] w (RB w ((n - used:Nat):Int)):=by
 have x2:=h.at_ 2 (v:= (n:Int)) rfl;have x4:=h.at_ 4 (v:= (used:Int)) rfl;have z:=zI (show(n:Int) - (used:Int)=((n - used:Nat):Int) from by omega);clear h;go_enter Tryz.func262,Tryz.ntmps262;go_upto_region 3 with fail
 go_quiet (fail)
 go_wp2_with fail
 go_ret;exact⟨by rw[<- z.out];rfl,below_drewN (qaa _ _) _⟩
theorem J43{F:Nat ->Prop}{gl g N q fr n gen used recs:Nat}{f:Int ->Option ByteArray}(l:List UInt8)(w:World)(hD:DsAt w F g N q f)(hX:Bx w gl 286 (lgCs g fr n gen used recs))(hn: ¬ F gl)(hl:l.length<=3000)(hg:gen<18446744073709551616)(hr:recs<65000)(hfit:used+wlN l.length<=n)(hN:fr+n<=N)(hn5:n<=4096)(hq:q<=800000):
  Cs 179 #[gl,strOf l] w fun e w'=>e= .returned (0:Int)/\
   LgW w F w' gl g N (q+2*wlN l.length) (Jb6 f (fr+used) (wlL gen recs l)) fr n gen (used+wlN l.length) (recs+1):=by
 have y3:=hX.drew.at_ 3 (v:= .int .u64 (gen:Int)) rfl;have y5:=hX.drew.at_ 5 (v:= (recs:Int)) rfl;have Y:=zI hX;have o:=zI (J0e gen recs l w.drew (by omega) hg (by omega));have V:=zI (fun W (hW:Below w.heap.size w W)=>J42 (hX.below hW) (show used<=n by omega) (by omega));have B:=zI (fun W (hW:Below w.heap.size w W)=>LgW.start (hD.below hW) (hX.below hW) hn);have Hk:=hD.size;have U:=zI hD.ins;have T:=zI hX.lt;have Hl:=zI hn;have t:=Jdy gen recs l
 have R:=zI (show ∀b∈wlL gen recs l,b.size=256 from fun b hb=>by
  unfold wlL at hb;obtain⟨p,_,rfl⟩:=qbm.1 hb;rw[Jab,J4a _ _ _ _ (Jjl l p)])
 obtain⟨bs,P⟩:=exE (wlL gen recs l);rw[<- P] at t o R ⊢;obtain⟨m,hm⟩:=exE (wlN l.length);rw[<- hm] at t hfit o ⊢;have O:=zI t;have Hm:(strOf l).size<=3000:=by rw[Jab];exact hl
 have d1:decide ((3000:Int)<((strOf l).size:Int))=false:=qae (by omega);have d1':decide (3000<(strOf l).size)=false:=qae (by omega);have d2:decide (((n - used:Nat):Int)<(m:Int))=false:=qae (by omega);obtain⟨rm,M⟩:=exE (n - used);rw[<- M] at d2 V;have d2': ¬ ((rm:Int)<(m:Int)):=by omega
 have d2d:decide (rm<m)=false:=qae (by omega);have d2e: ¬ (rm<m):=by omega
 generalize strOf l=S at*;clear hD hX hn t P hm M;go_enter Tryz.func179,Tryz.ntmps179;go_upto_region 1 with fail
 go_region_held3 (fun w'=>w'.cell? ⟨gl,3,none⟩=some (.int .u64 (gen:Int))/\w'.cell? ⟨gl,5,none⟩=some (.int .i64 (recs:Int)))
  (first
    | exact⟨y3,y5⟩
    | exact⟨(Y.out.below z).at_ 3 rfl,(Y.out.below z).at_ 5 rfl⟩)
  (first
    | (go_at_call 261
       refine o.out.mono ?_;rintro e w1 ⟨v,rfl,y,r⟩;have z:Below w.heap.size w w1:=(qaa w.heap.size w).drew.trans (by simpa using r);have x:w1.ownsRow w.heap.size 9 1 v m (bs.map Value.string):=(by simpa using y);obtain⟨A,c,rfl,L⟩:=Jap x))
 clear y3 y5 y r;go_split_ands;have J:AIn (made w w1) A:=Jb7 x;have u:=zI z;have i:=zI L
 have hJ:=zI (show AIn (fun b=> ¬ (F b\/b=gl)) A from J.sub (fun b hb C=>by
  have h1:=hb.1;rcases C with C | C
  · have:=U.out b C;omega
  · have:=T.out;omega))
 have I:=zI (V.out w1 z);clear x z L J;go_wp2_with fail
 refine I.out.mono ?_;rintro e w2 ⟨rfl,h⟩;have i:=zI (i.out.below h);have u:=zI (u.out.trans (h.mono u.out.size));have Ha:=zI (B.out w2 u.out);clear h;go_wp2_with fail
 go_loopw [31] (fun j wr=>∃k:Nat,k<=m/\j= .int .i64 (k:Int)/\LgW w2 F wr gl g N (q+2*k) (Jb6 f (fr+used) (bs.take k)) fr n gen (used+k) recs) (fun j _=>m - (intOf j).toNat)
 case atStart=>exact⟨0,qaq _,rfl,Ha.out⟩
 case round=>
  obtain⟨k,hk,rfl,hg⟩:=hrel;by_cases Hb:k<m
  · have K:k<bs.length:=by rw[O.out];exact Hb
    have H:=i.out.chg hg.chg hJ.out;obtain⟨b,off,hA,Hc,hc⟩:=H.at_ (by intro e;have:=congrArg List.length e;rw[qa0] at this;simp at this;rw[this] at K;simp at K);have s1:=hc k (bs[k]) (by rw[qb7,qam K];rfl);have Hd:=zI (R.out _ (qal K))
    have d:=zI (show Jb6 f (fr+used) (bs.take (k+1))=setS (Jb6 f (fr+used) (bs.take k)) ((fr+(used+k):Nat):Int) bs[k] from by
     rw[qak K,Jk5,qap,Nat.min_eq_left (qcx K),qcc])
    generalize bs[k]'K=S1 at*;obtain⟨uk,G⟩:=exE (used+k);rw[<- G] at hg d;have a:=hg.below (qaa wr.heap.size wr).drew;obtain⟨x0,x1,_,_,x4,_,_⟩:=hg.cells;obtain⟨y0,y1,_,_,y4,_,_⟩:=a.cells;obtain⟨at_,hat⟩:=exE (fr+uk);have Hi:(fr:Int)+(uk:Int)=(at_:Int):=(by omega);have E:=zI (a.write at_ (by omega) S1 Hd.out (by omega));rw[<- hat] at d;rw[<- d.out] at E;have He:=zI (show(uk:Int)+1=((uk+1:Nat):Int) from by omega);have Hf:=zI (show uk+1=used+(k+1) from by omega);have Hn:uk+1<=5000:=(by omega);have Hj:at_<=10000:=(by omega);have Ho:IntKind.i64.wrap (at_:Int)=(at_:Int):=qbd _ (by omega);have s1D:wr.drew.cell? ⟨b,off+k,none⟩=some (.string S1):=s1;subst hA;clear H Hc hc hg a hat G;go_upto_region 9 with fail
    go_region_with (first
     | (go_at_call 28
        refine E.out.mono ?_;rintro e w3 ⟨rfl,s⟩))
    all_goals
     obtain⟨_,_,_,_,z4,_,_⟩:=s.cells;have Hp:=s.bx.free 4;have Z:=zI (s.setUsed (uk+1));rw[<- He.out] at Z;rw[Hf.out] at Z;clear s s1 s1D x0 x1 x4 y0 y1 y4;go_wp2_with fail
     go_roundw
     case rel=>exact⟨k+1,by omega,by go_num,by rw[show q+2*(k+1)=q+2*k+2 from by omega];exact Z.out⟩
     case measure=>simp[intOf];omega
  · have Hg:k=m:=by omega
    subst Hg;have HT:=zI (show bs.take k=bs from qao (by rw[O.out];exact qab _));rw[HT.out] at hg;obtain⟨_,_,_,_,_,x5,_⟩:=hg.cells;have Hq:=hg.bx.free 5;have Hh:=zI (show((recs:Nat):Int)+1=((recs+1:Nat):Int) from by omega);have D:=zI ((hg.setRecs (recs+1)).back u.out U.out T.out);rw[<- Hh.out] at D;have Hr:recs+1<=70000:=(by omega);clear hg;go_wp2_with fail
    go_ret;exact⟨rfl,D.out⟩
theorem J1d{w:World}{gl g fr n gen used recs:Nat}(h:Bx w gl 286 (lgCs g fr n gen used recs)):
  Cs 178 #[gl] w (RS w (0:Int)):=by
 have x0:=h.at_ 0 (v:= g) rfl;have x6:=h.at_ 6 (v:= (0:Int)) rfl;clear h;go_enter Tryz.func178,Tryz.ntmps178;go_wp2_with fail
 go_ret;exact⟨rfl,rfl⟩
theorem J44{w0 w:World}{F:Nat ->Prop}{gl g N q fr n gen used recs:Nat}{f:Int ->Option ByteArray}(h:LgW w0 F w gl g N q f fr n gen used recs):
  Cs 180 #[gl,(0:Int)] w fun e w'=>e= .returned (0:Int)/\LgW w0 F w' gl g N q f fr n gen used recs:=by
 have x6:=h.cells.2.2.2.2.2.2;have y:=h.bx.free 6;have z:=zI h.bad0;clear h;go_enter Tryz.func180,Tryz.ntmps180;go_wp2_with fail
 go_ret;exact⟨rfl,z.out⟩
theorem J8g{F:Nat ->Prop}{gl g N q fr n gen used recs:Nat}{f:Int ->Option ByteArray}(l:List UInt8)(b:Nat)(w:World)(hD:DsAt w F g N q f)(hX:Bx w gl 286 (lgCs g fr n gen used recs))(hn: ¬ F gl)(hs:w.cell? ⟨b,0,none⟩=some (.string (strOf l)))(hl:l.length<=3000)(hg:gen<18446744073709551616)(hr:recs<65000)(hfit:used+wlN l.length<=n)(hN:fr+n<=N)(hn5:n<=4096)(hq:q<=800000):
  Cs 104 #[gl,.slice (some ⟨b,0,none⟩) 1 1] w fun e w'=>e= .returned (0:Int)/\
   LgW w F w' gl g N (q+2*wlN l.length) (Jb6 f (fr+used) (wlL gen recs l)) fr n gen (used+wlN l.length) (recs+1):=by
 have v:=zI (J1d hX);have u:=zI (J43 l w hD hX hn hl hg hr hfit hN hn5 hq);generalize strOf l=S at*;clear hD hX hn hl hg hr hfit hN hn5 hq;go_enter Tryz.func104,Tryz.ntmps104;go_wp2_with fail
 refine v.out.mono ?_;rintro e w1 ⟨rfl,x⟩;subst x;go_wp2_with fail
 go_loopw [16] (fun j wr=>(j= .int .i64 0/\w=wr)\/(j= .int .i64 1/\LgW w F wr gl g N (q+2*wlN l.length) (Jb6 f (fr+used) (wlL gen recs l)) fr n gen (used+wlN l.length) (recs+1))) (fun j _=>1 - (intOf j).toNat)
 case atStart=>exact .inl ⟨rfl,rfl⟩
 case round=>
  rcases hrel with⟨rfl,x⟩ | ⟨rfl,hg⟩
  · subst x
    go_wp2_with fail
    refine u.out.mono ?_;rintro e w2 ⟨rfl,y⟩;have z:=zI y;clear y hs;go_wp2_with fail
    go_roundw
    case rel=>exact .inr ⟨by first | rfl | go_num,z.out⟩
    case measure=>simp[intOf]
  · have z:=zI hg
    clear hg hs;go_wp2_with fail
    go_ret;exact⟨rfl,z.out⟩
theorem J1e{F:Nat ->Prop}{gl g N q fr n gen used recs:Nat}{f:Int ->Option ByteArray}(w:World)(hD:DsAt w F g N q f)(hX:Bx w gl 286 (lgCs g fr n gen used recs))(hn: ¬ F gl)(hq:q<=800000):
  Cs 106 #[gl] w fun e w'=>e= .returned (0:Int)/\LgW w F w' gl g N q f fr n gen used recs:=by
 have s:=zI (J1d hX);have x:=LgW.start hD hX hn;have x0:=x.cells.1;have v:=zI (x.flush (by omega));clear hD hX hn x;go_enter Tryz.func106,Tryz.ntmps106;go_wp2_with fail
 refine s.out.mono ?_;rintro e w1 ⟨rfl,r⟩;subst r;go_wp2_with fail
 refine v.out.mono ?_;rintro e w2 ⟨rfl,z⟩;have u:=zI (J44 z);clear z x0;go_wp2_with fail
 refine u.out.mono ?_;rintro e w3 ⟨rfl,y⟩;have t:=zI y;clear y;go_wp2_with fail
 go_ret;exact⟨rfl,t.out⟩
theorem J1f{F:Nat ->Prop}{g room:Nat}{t:Tv}{A:Option Addr}{n c:Nat}{l:List Smp}(w:World)(h:StAt w F g room t)(h1:1<=t.tabs.length)(hl:Smps w A n l)(hE:t.r.putErr l≠0):
  Cs 19 #[g,.slice A n c] w (RB w (t.r.putErr l:Int)):=by
 have s:=zI (Jep w h);obtain⟨gt,FT,m,k,_,_⟩:=h.ex;have j:=zI (Jh4 w k);have q:=zI (fun W F' g' (hT':Jae W F' g' t) (hl':Smps W A n l)=>J4e (c:=c) W hT' h1 hl' hE);have i:=zI hl;have s1:=m.at_ 1 (v:= gt) rfl;have d1:((t.r.putErr l)==0)=false:=by rw[qaw];exact hE
 clear h m k hl;generalize t.r.putErr l=er at*;go_enter Tryz.func19,Tryz.ntmps19;go_wp2_with fail
 refine s.out.mono ?_;rintro e w0 ⟨rfl,f⟩;subst f;go_wp2_with fail
 refine j.out.mono ?_;rintro e w1 ⟨g',rfl,y,z⟩;have p:=zI (q.out w1 _ g' y (i.out.below z));have x:=zI z;clear y z;go_wp2_with fail
 refine p.out.mono ?_;rintro e w2 ⟨rfl,u⟩;have o:=zI (x.out.trans (u.mono x.out.size));clear u;go_wp2_with fail
 go_ret;exact⟨rfl,o.out⟩
set_option linter.unusedSimpArgs false in
theorem Jwt{F:Nat ->Prop}{g room:Nat}{t:Tv}{A:Option Addr}{n c:Nat}{l:List Smp}(w:World)(h:StAt w F g room t)(h1:1<=t.tabs.length)(h3:t.tabs.length<=1000)(hl:Smps w A n l)(hn:1<=n/\n<=8)(hfew:∀i,i<t.tabs.length ->(t.tab i).length<=900000)(hg:∀s∈l,t.r.Gets s)(hev:∀i,i<t.tabs.length -> -9223372036854775808<=t.r.ev i/\t.r.ev i<=9223372036854775807)(hf:(t.put l).Few)(hneed:(room:Int)<(t.put l).need):
  Cs 19 #[g,.slice A n c] w (RB w (20:Int)):=by
 have Y:=zI (Jep w h)
 have L:AIn (fun b=>b<w.heap.size) A:=fun a e=>by
  obtain⟨b,off,e',I,_⟩:=hl.get (j:=0) (by rw[hl.len];exact hn.1);rw[e'] at e;cases e;exact I
 obtain⟨gt,FT,V,J,_,_⟩:=h.ex;have H:=zI (Jh4 w J);have U:=zI (fun W F' g' (hT':Jae W F' g' t) (hl':Smps W A n l) (hA':AIn (fun b=> ¬ F' b) A)=>Jy2 (c:=c) W hT' h1 hl' hA' hn hfew hg hev);have y:(t.put l).tabs.length=t.tabs.length:=t.put_len l;have m:=zI (fun W F' g' (hT':Jae W F' g' (t.put l))=>Jh3 W hT' (by rw[y];exact h1) hf);have u:=Jf3 hf (t.put l).tabs.length (qab _);have T:=zI (fun W=>Jn8 (t.put l).need W ⟨u.1,by have:=u.2;rw[y] at this;unfold Tv.need;rw[y];omega⟩);have G:=zI hl;have E:=zI L;have D:=zI V;have s1:=V.at_ 1 (v:= gt) rfl;have d1:decide ((room:Int)<(t.put l).need)=true:=qan hneed;have d2:(room:Int)<(t.put l).need:=hneed;clear h V J hf u hl L hfew hg hev y hneed hn;generalize t.put l=t2 at*;go_enter Tryz.func19,Tryz.ntmps19;go_wp2_with fail
 refine Y.out.mono ?_;rintro e w0 ⟨rfl,C⟩;subst C;go_wp2_with fail
 refine H.out.mono ?_;rintro e w1 ⟨g',rfl,k,q⟩;have R:=zI (U.out w1 _ g' k (G.out.below q) (fun a e hm=>by have:=E.out a e;have:=hm.1;omega));have P:=zI q;clear k q;go_wp2_with fail
 refine R.out.mono ?_;rintro e w2 ⟨rfl,f,d⟩;have p:=zI (Chg.made P.out d);have x:=zI (D.out.below p.out);have O:=zI (m.out w2.drew _ g' (f.below (qaa _ _).drew));clear f d s1;go_upto_region 7 with fail
 refine wp_region_held_drew (S:=(fun w'=>w'.cell? ⟨g,0,none⟩=some (.int .i64 (room:Int))/\w'.cell? ⟨g,2,none⟩=some (.pointer none)/\Below w2.heap.size w2 w')) (by kernel_rfl) ?_ (fun hHeld=> ?_)
 · exact⟨x.out.drew.at_ 0 rfl,x.out.drew.at_ 2 rfl,(qaa _ _).drew⟩
 refine tkE 0 ?_
 try simp only[qah,qag,qaf,Act.put,qac,qai,qaj]
 refine tkE 2 ?_
 try simp only[qah,qag,qaf,Act.put,qac,qai,qaj]
 refine tkE 3 ?_
 try simp only[qah,qag,qaf,Act.put,qac,qai,qaj]
 refine tkE 4 ?_
 try simp only[qah,qag,qaf,Act.put,qac,qai,qaj]
 refine tkE 5 ?_
 try simp only[qah,qag,qaf,Act.put,qac,qai,qaj]
 refine tkE 8 ?_
 try simp only[qah,qag,qaf,Act.put,qac,qai,qaj]
 refine tkE 9 ?_
 try simp only[qah,qag,qaf,Act.put,qac,qai,qaj]
 refine tkE 10 ?_
 try simp only[qah,qag,qaf,Act.put,qac,qai,qaj]
 refine tkE 11 ?_
 try simp only[qah,qag,qaf,Act.put,qac,qai,qaj]
 refine tkE 12 ?_
 try simp only[qah,qag,qaf,Act.put,qac,qai,qaj]
 refine wpAnyH_ready (rs:=[1]) (by kernel_rfl) (by simp) (AllReadyH.cons (o:=_) rfl (fun K hK=> ?_) AllReadyH.nil);go_simp
 go_at_call 32
 refine O.out.mono ?_;rintro e w3 ⟨rfl,Z⟩;refine hK.out _ _ ?_ (fun hHeld=> ?_)
 · (have N:=(qaa w2.heap.size w2).drew.trans Z;exact⟨(x.out.below N).at_ 0 rfl,(x.out.below N).at_ 2 rfl,N⟩)
 clear hK K
 try simp only[qah,qag,qaf,Act.put,qac,qai,qaj]
 refine wpAnyH_ready (rs:=[6]) (by kernel_rfl) (by simp) (AllReadyH.cons (o:=_) rfl (fun K hK=> ?_) AllReadyH.nil);go_simp
 go_at_call 60
 refine(Jeq _).mono ?_;rintro e w4 ⟨rfl,rfl⟩;refine hK.out _ _ ?_ (fun hHeld=> ?_)
 · exact hHeld
 clear hK K
 try simp only[qah,qag,qaf,Act.put,qac,qai,qaj]
 refine wpAnyH_ready (rs:=[7]) (by kernel_rfl) (by simp) (AllReadyH.cons (o:=_) rfl (fun K hK=> ?_) AllReadyH.nil);go_simp
 go_at_call 59
 refine(T.out _).mono ?_;rintro e w5 ⟨rfl,rfl⟩;refine hK.out _ _ ?_ (fun hHeld=> ?_)
 · exact hHeld
 clear hK K
 try simp only[qah,qag,qaf,Act.put,qac,qai,qaj]
 refine tkE 13 ?_
 try simp only[qah,qag,qaf,Act.put,qac,qai,qaj]
 refine tkE 14 ?_
 try simp only[qah,qag,qaf,Act.put,qac,qai,qaj]
 refine skE 15 ?_
 try simp only[qah,qag,qaf,Act.put,qac,qai,qaj]
 refine skE 16 ?_
 try simp only[qah,qag,qaf,Act.put,qac,qai,qaj]
 refine skE 17 ?_
 try simp only[qah,qag,qaf,Act.put,qac,qai,qaj]
 refine skE 18 ?_
 try simp only[qah,qag,qaf,Act.put,qac,qai,qaj]
 refine skE 19 ?_
 try simp only[qah,qag,qaf,Act.put,qac,qai,qaj]
 refine skE 20 ?_
 try simp only[qah,qag,qaf,Act.put,qac,qai,qaj]
 refine skE 21 ?_
 try simp only[qah,qag,qaf,Act.put,qac,qai,qaj]
 refine skE 22 ?_
 try simp only[qah,qag,qaf,Act.put,qac,qai,qaj]
 refine skE 23 ?_
 try simp only[qah,qag,qaf,Act.put,qac,qai,qaj]
 refine skE 24 ?_
 try simp only[qah,qag,qaf,Act.put,qac,qai,qaj]
 refine skE 25 ?_
 try simp only[qah,qag,qaf,Act.put,qac,qai,qaj]
 refine skE 26 ?_
 try simp only[qah,qag,qaf,Act.put,qac,qai,qaj]
 refine skE 27 ?_
 try simp only[qah,qag,qaf,Act.put,qac,qai,qaj]
 refine skE 28 ?_
 try simp only[qah,qag,qaf,Act.put,qac,qai,qaj]
 refine tkE 29 ?_
 try simp only[qah,qag,qaf,Act.put,qac,qai,qaj]
 refine wpAnyH_done (by kernel_rfl) ?_ _;have M:=zI (p.out.trans (hHeld.2.2.mono p.out.size));clear hHeld Z;go_wp2_with fail
 go_ret;exact⟨rfl,M.out⟩
theorem J45{l:List Smp}(hf:∀s∈l,s.Fine){k:Nat}(hk:k<l.length):(strOf (smsB l)).extract (32*k) (32*k+32)=strOf (smB l[k]):=by
 have e:smsB l=smsB (l.take k)++(smB l[k]++smsB (l.drop (k+1))):=by
  unfold smsB
  conv=>lhs;rw[<- qbe k l]
  rw[qay,qbp hk,qas]
 have z:(smsB (l.take k)).length=32*k:=by
  rw[Jcw (fun s hs=>(hf s (qbr hs)).len),qap];omega
 have y:(smB l[k]).length=32:=Jof (hf _ (qal hk)).len;have:=Jh8 (smsB (l.take k)) (smB l[k]) (smsB (l.drop (k+1)));rw[z,y,<- e] at this;exact this
theorem J46(s:Smp):∀u∈s.cells,u.oneCell'=true:=by
 intro u z;simp[Smp.cells] at z;rcases z with rfl | rfl | rfl<;>rfl
theorem Jwu(l:List Smp)(w:World)(hf:∀s∈l,s.Fine)(hn:l.length<=10000):
  Cs 142 #[(strOf (smsB l))] w fun e w'=>∃v,e= .returned (.tuple #[v,(0:Int)])/\w'.ownsRow w.heap.size 85 3 v l.length (l.flatMap Smp.cells)/\Below w.heap.size w w':=by
 have HM:=zI (fun k (hk:k<l.length)=>J45 hf hk);have N:=zI hf;obtain⟨L,U⟩:=exE l.length;have HL:=zI U;have He:(strOf (smsB l)).size=32*L:=by rw[Jab,Jcw (fun s hs=>(hf s hs).len),U]
 have Hf:L<=10000:=by omega
 have Hd:((32*(L:Int)) % 32)=0:=by omega
 generalize strOf (smsB l)=S at*;rw[<- U];clear hf hn U;go_enter Tryz.func142,Tryz.ntmps142;go_wp2_with fail
 go_loopw [4,5] (fun v i wr=>∃k:Nat,k<=L/\i= .int .i64 ((32*k:Nat):Int)/\wr.ownsRow w.heap.size 85 3 v k ((l.take k).flatMap Smp.cells)/\Below w.heap.size w wr) (fun _ i _=>32*L - (intOf i).toNat)
 case atStart=>exact⟨0,qaq _,rfl,qax _ _ _ _,qaa _ _⟩
 case round=>
  obtain⟨k,hk,rfl,z,R⟩:=hrel;by_cases M:k<L
  · have K:k<l.length:=by rw[<- HL.out];exact M
    have hx:=HM.out k K;have t:=zI (N.out l[k] (qal K))
    have P:=zI (show(l.take k).flatMap Smp.cells++l[k].cells=(l.take (k+1)).flatMap Smp.cells from by
     rw[qak K,qay];simp)
    have J:=zI z;have O:=zI R;generalize l[k]'K=x at*;have I:=zI (J46 x);have H:=zI (Jof t.out.len);have f:=zI (ReadW.from_ wr (qaa _ wr) (smB x) (by rw[H.out];omega));have d:=zI (fun W=>Jqv x W t.out);have G:=zI (Jug x.nm);obtain⟨T,hT⟩:=exE (strOf (smB x));rw[<- hT] at hx d f;clear z R hT;have Hg:32*k<32*L:=(by omega);go_wp2_with fail
    rw[hx];refine f.out.mono ?_;rintro e w2 ⟨g,rfl,r⟩;have b:=zI (ReadW.name x.nm.toList _ (show ReadW wr w2 g (nmB x.nm.toList++(le 8 (u64 x.tm)++le 8 (u64 x.vl))) from r) t.out.len (by simp));rw[G.out] at b;clear r;go_wp2_with fail
    refine b.out.mono ?_;rintro e w3 ⟨rfl,r⟩;have F:=zI (ReadW.int x.tm _ r t.out.ok.tm (by simp));clear r;go_wp2_with fail
    refine F.out.mono ?_;rintro e w4 ⟨rfl,r⟩;have E:=zI (ReadW.int x.vl [] (by rw[qbk];exact r) t.out.ok.vl (by simp));clear r;go_wp2_with fail
    refine E.out.mono ?_;rintro e w5 ⟨rfl,r⟩;have o:=r.below;obtain⟨w6,q⟩:=exE (w5.alloc (.cells #[x.nm,(x.tm:Int),(x.vl:Int)] 85));have y:Bx w6 w5.heap.size 85 #[x.nm,(x.tm:Int),(x.vl:Int)]:=by rw[q];exact Bx.new _ _ _
    obtain⟨g6,n⟩:=exE w5.heap.size;rw[<- n] at y;have a:Below wr.heap.size wr w6:=by rw[q];exact o.alloc o.size _
    have m:=zI y;have p:=zI a;have D:=zI q;have C:=zI n;have B:=zI (d.out w6);have c0:=y.at_ 0 (v:= x.nm) rfl;have c1:=y.at_ 1 (v:= (x.tm:Int)) rfl;have c2:=y.at_ 2 (v:= (x.vl:Int)) rfl;clear r o y a q n;go_upto_region 9 with fail
    rw[<- D.out,<- C.out];go_wp2_with fail
    refine B.out.mono ?_;rintro e w7 ⟨rfl,u⟩;have d0:=(m.out.below u).at_ 0 (v:= x.nm) rfl;have d1:=(m.out.below u).at_ 1 (v:= (x.tm:Int)) rfl;have d2:=(m.out.below u).at_ 2 (v:= (x.vl:Int)) rfl;have j:=(p.out.trans (u.mono p.out.size)).alloc (p.out.trans (u.mono p.out.size)).size (.cells #[x.nm,(x.tm:Int),(x.vl:Int)] 85);have Z:=Sl.new w7 85 w7.heap.size x.cells #[x.nm,(x.tm:Int),(x.vl:Int)] rfl rfl;have Y:=zI (Jah J.out j);have h:=zI (O.out.trans (j.mono O.out.size));have hJ:=zI Z;have HK:=zI (show k+1<=1000000 from by omega);clear u j Z c0 c1 c2;go_wp2_with (at_builtin;refine J77 rfl _ _ rfl Y.out rfl (some ⟨w7.heap.size,0,none⟩) 1 1 x.cells rfl rfl hJ.out I.out HK.out h.out.size ?_;intro A' c' w9 V Ha)
    have Hb:=Jbw Y.out Ha h.out h.out.size;rw[P.out] at V;go_roundw
    case rel=>exact⟨k+1,by omega,by go_num,V,Hb⟩
    case measure=>simp[intOf];omega
  · have Hc:L=k:=by omega
    subst Hc;have P:=zI (show l.take L=l from qao (by rw[<- HL.out];exact qab _));rw[P.out] at z;have J:=zI z;have O:=zI R;obtain⟨A,c,rfl,_⟩:=Jap z;clear z R P;go_wp2_with fail
    go_ret2;exact⟨_,rfl,J.out,O.out⟩
theorem J47{w:World}{B:Nat}{v:Value}{n:Nat}{l:List Smp}(h:w.ownsRow B 85 3 v n (l.flatMap Smp.cells))(hl:l.length=n)(hn:n<=maxLen)(hok:∀s∈l,s.Ok):∃A c,v= .slice A n c/\Smps w A n l:=by
 obtain⟨A,c,e,z⟩:=Ji1 h;exact⟨A,c,e,⟨z,hl,hn,hok⟩⟩
theorem J1g(o:Ov)(w:World)(h:o.Ok):
  Cs 73 #[(strOf (opB o))] w fun e w'=>∃A c,e= .returned (.tuple #[opV o A o.l.length c,(0:Int)])/\Smps w' A o.l.length o.l/\AIn (made w w') A/\Below w.heap.size w w':=by
 have h8:o.l.length<=8:=by rcases h.kind with x | x;omega;rw[x.2.2.2];simp
 have Hh:o.kind<=2:=by rcases h.kind with x | x<;>omega
 have Hi:0<=o.n/\o.n<=1099511627776:=by rcases h.kind with x | x;omega;exact⟨x.2.1,x.2.2.1⟩
 have H:=zI h;have Hj:(strOf (opB o)).size=10+32*o.l.length:=by rw[Jab,Jsq h]
 have F:=(qaa w.heap.size w).alloc (qab _) (.cells #[(0:Int),(0:Int),.slice none 0 0] 115);have f:=Bx.new w 115 #[(0:Int),(0:Int),.slice none 0 0];obtain⟨w1,E⟩:=exE (w.alloc (.cells #[(0:Int),(0:Int),.slice none 0 0] 115));rw[<- E] at F f;obtain⟨gr,D⟩:=exE w.heap.size;rw[<- D] at f;have Ka:=zI E;have Hk:=zI D;have C:=zI f;have hJ:=zI F;clear E F f;have HF:=zI (ReadW.from_ w1 (qaa _ w1) (opB o) (by rw[Jsq h];omega));obtain⟨S,hS⟩:=exE (strOf (opB o));rw[<- hS] at HF Hj ⊢;have HS:=zI hS;obtain⟨L,hL⟩:=exE o.l.length;have d:=zI hL;rw[<- hL] at Hj h8 ⊢;have HK:=zI Hh;have HN:=zI Hi;have H8:=zI h8;clear h hS hL Hh Hi D;go_enter Tryz.func73,Tryz.ntmps73;go_upto_region 1 with fail
 rw[<- Ka.out,<- Hk.out];go_wp2_with fail
 refine HF.out.mono ?_;rintro e w2 ⟨g,rfl,hr⟩;have Kb:=zI (ReadW.small 1 o.kind _ (show ReadW w1 w2 g (le 1 o.kind++(le 1 o.l.length++(le 8 (u64 o.n)++smsB o.l))) from by simpa[opB,qa5] using hr) Jmk (by have:=HK.out;simp;omega) (by rw[qad,qad,Jcw (fun s hs=>(H.out.fine s hs).len)];have:=H8.out;have:=d.out;simp;omega));clear hr;go_wp2_with fail
 refine Kb.out.mono ?_;rintro e w3 ⟨rfl,hr⟩;obtain⟨g5,Z⟩:=exE w3.heap.size;obtain⟨w4,Y⟩:=exE (w3.alloc (.cells #[(o.kind:Int),(0:Int),.slice none 0 0] 115));have Hl:Bx w4 g5 115 #[(o.kind:Int),(0:Int),.slice none 0 0]:=by rw[Y,Z];exact Bx.new _ _ _
 have Ha:ReadW w1 w4 g (le 1 o.l.length++(le 8 (u64 o.n)++smsB o.l)):=by rw[Y];exact hr.alloc _
 have Hm:w1.heap.size<=g5:=by rw[Z];exact hr.below.size
 have Hn:g5≠g:=by have:=hr.at_.bx.lt;omega
 have Kc:=zI Ha;have Kd:=zI (Jcc g 1 o.l.length _ w4 Ha.at_ Jmk (by have:=H8.out;have:=d.out;simp;omega) (by rw[qad,Jcw (fun s hs=>(H.out.fine s hs).len)];have:=H8.out;have:=d.out;simp;omega));have Ke:=zI Hl;have Kf:=zI Y;have Kg:=zI Z;have Ho:=zI Hm;have Hp:=zI Hn;clear hr Y Z Hl Ha Hm Hn;go_upto_region 5 with fail
 rw[<- Kf.out,<- Kg.out];have Hq:some g5≠some g:=fun e=>Hp.out (by injection e);have Hb:=zI Hq;clear Hq;go_wp2_with fail
 refine Kd.out.mono ?_;rintro e w5 ⟨rfl,W,p⟩;have Kh:=zI (Kc.out.grown W p);have Ki:=zI (Ke.out.grown p Hb.out);have Kj:=zI (Jiu g o.n _ w5 W (by have:=HN.out;omega) (by rw[Jcw (fun s hs=>(H.out.fine s hs).len)];have:=H8.out;have:=d.out;omega));clear W p;go_wp2_with fail
 refine Kj.out.mono ?_;rintro e w6 ⟨rfl,W,p⟩;have V:=Kh.out.grown W p;have m:=Ki.out.grown p Hb.out;have Ks:=zI m;obtain⟨w7,U⟩:=exE (w6.setCell ⟨g5,1,none⟩ (o.n:Int));have Hc:ReadW w1 w7 g (smsB o.l):=by rw[U];exact⟨⟨V.at_.bx.other Hp.out.symm _⟩,V.low,V.below.setCell Ho.out _⟩
 have Hr:Bx w7 g5 115 #[(o.kind:Int),(o.n:Int),.slice none 0 0]:=by rw[U];exact m.set 1 _
 have Kk:=zI Hc;have Kl:=zI Hr;have Km:=zI U;have Kn:=zI (Jt1 g (smsB o.l) w7 Hc.at_ (by rw[Jcw (fun s hs=>(H.out.fine s hs).len)];have:=H8.out;have:=d.out;omega));have e1:=m.at_ 1 (v:= (0:Int)) rfl;have f1:=m.free 1;clear W p V m U Hc Hr;go_upto_region 7 with fail
 rw[<- Km.out];clear e1 f1;go_wp2_with fail
 refine Kn.out.mono ?_;rintro e w8 ⟨rfl,W,p⟩;have Hs:=Kk.out.grown W p;have T:=zI Hs.below;have Ht:=zI (Kl.out.grown p Hb.out);have Ko:=zI (Jwu o.l w8 H.out.fine (by have:=H8.out;have:=d.out;omega));clear W p Hs;go_wp2_with fail
 refine Ko.out.mono ?_;rintro e w9 ⟨v9,rfl,Hd,He⟩;obtain⟨A,c,rfl,Hu⟩:=J47 Hd rfl (by have:=H8.out;have:=d.out;unfold maxLen;omega) (fun s hs=>(H.out.fine s hs).ok);have k:AIn (made w8 w9) A:=Jb7 Hd;have R:=Ht.out.below He;obtain⟨w10,y⟩:=exE (w9.setCell ⟨g5,2,none⟩ (.slice A L c));have O:Bx w10 g5 115 #[(o.kind:Int),(o.n:Int),.slice A L c]:=by rw[y];exact R.set 2 _
 have Hv:=Ht.out.lt;have j:Smps w10 A o.l.length o.l:=by rw[y];exact Hu.chg (G:=fun b=>b=g5) (Chg.set w9 _ _ rfl) (fun a e he=>by have:=(k a e).1;have Kp:a.block=g5:=he;omega)
 have N:Below w1.heap.size w1 w10:=by rw[y];exact(T.out.trans (He.mono T.out.size)).setCell Ho.out _
 have Hf:=zI (Jms o A o.l.length c w10 H.out j);have Hg:=d.out;rw[<- Hg] at Hf;rw[<- HS.out] at Hf;have Hw:=zI j;have Kq:=zI (fun (a:Addr) (e:A=some a)=>show gr<a.block from by have h1:=(k a e).1;have h2:=T.out.size;have h3:=C.out.lt;omega);have HA:=zI (show AIn (made w w10) A from fun a e=>⟨by have:=(k a e).1;have:=hJ.out.size;have:=T.out.size;omega,by have:=(k a e).2;rw[y,World.size_setCell];exact this⟩);have M:=zI N;have t:=zI O;have Hx:=zI y;have e2:=R.at_ 2 (v:= .slice none 0 0) rfl;have f2:=R.free 2;rw[<- Hg];clear Hd He Hu k R y O Hv j N Hg;go_upto_region 9 with fail
 rw[<- Hx.out];have c0:=t.out.at_ 0 (v:= (o.kind:Int)) rfl;have c1:=t.out.at_ 1 (v:= (o.n:Int)) rfl;have c2:=t.out.at_ 2 (v:= .slice A L c) rfl;clear e2 f2;go_wp2_with fail
 refine Hf.out.mono ?_;rintro e w11 ⟨rfl,u⟩;have i:=zI (t.out.below u);have d0:=i.out.at_ 0 (v:= (o.kind:Int)) rfl;have d1:=i.out.at_ 1 (v:= (o.n:Int)) rfl;have d2:=i.out.at_ 2 (v:= .slice A L c) rfl;have P:=M.out.trans (u.mono M.out.size);have z:=C.out.below P;have x0:=z.at_ 0 (v:= (0:Int)) rfl;have x1:=z.at_ 1 (v:= (0:Int)) rfl;have x2:=z.at_ 2 (v:= .slice none 0 0) rfl;have y0:=z.free 0;have y1:=z.free 1;have y2:=z.free 2;have Kr:=zI P;have Hy:=zI (hJ.out.trans (P.mono hJ.out.size));have Hz:=zI (Hw.out.below u);have K:=zI (AIn.sub (G:=made w w11) HA.out (fun b hb=>⟨hb.1,qar hb.2 u.size⟩));clear u P z c0 c1 c2;go_wp2_with fail
 obtain⟨w12,r⟩:=exE (putC w11 gr 0 [(o.kind:Int),(o.n:Int),.slice A L c]);have q:=Ja1 (C.out.below (show Below w1.heap.size w1 w11 from Kr.out)) [(o.kind:Int),(o.n:Int),.slice A L c] rfl;have J:=Jao (B:=w.heap.size) [(o.kind:Int),(o.n:Int),.slice A L c] (Nat.le_of_eq Hk.out.symm) w11 0;have I:=Jb8 (g:=gr) [(o.kind:Int),(o.n:Int),.slice A L c] w11 0;have H0:w12.heap.size=w11.heap.size:=by rw[r];simp[putC,World.size_setCell]
 rw[<- r] at q J I;simp only[putC,qa9,Nat.reduceAdd] at r;rw[<- r];have q0:=q.at_ 0 (v:= (o.kind:Int)) rfl;have q1:=q.at_ 1 (v:= (o.n:Int)) rfl;have q2:=q.at_ 2 (v:= .slice A L c) rfl
 have H9:Smps w12 A L o.l:=by
  have:=Hz.out;rw[<- d.out] at this;exact this.chg I (fun a e he=>by have h1:=Kq.out a e;have Kp:a.block=gr:=he;omega)
 exact qa7 (v:= .tuple #[opV o A L c,(0:Int)]) (by simp[results,Tryz.results73,go_sem,q0,q1,q2]) rfl ⟨A,c,rfl,H9,fun a e=>⟨(K.out a e).1,by rw[H0];exact(K.out a e).2⟩,Hy.out.trans J⟩
theorem J1h(o:Ov)(A:Option Addr)(n c gs:Nat)(w:World){R:Ending ->World ->Prop}(hk:o.kind=1)(hP:∀W,Below w.heap.size w W ->Cs 19 #[gs,.slice A n c] W fun e w'=>∃r:Int,e= .returned (r:Int)/\R e w'):
  Cs 145 #[gs,opV o A n c] w fun e w'=>∃r:Int,e= .returned (r:Int)/\R e w':=by
 have z:=(qaa w.heap.size w).alloc (qab _) (.cells #[(o.kind:Int),(o.n:Int),.slice A n c] 115);have x:=zI (hP _ z);have v:decide ((o.kind:Int)=1)=true:=by rw[hk];rfl
 obtain⟨kd,nn,l⟩:=o;simp only at*;subst hk;clear hP z v;go_enter Tryz.func145,Tryz.ntmps145;go_wp2_with fail
 refine x.out.mono ?_;rintro e w2 ⟨r,rfl,y⟩;have u:=zI y;clear y;go_wp2_with fail
 go_ret;exact⟨r,rfl,u.out⟩
theorem Jwv(o:Ov)(A:Option Addr)(n c gs:Nat)(w:World){R:Ending ->World ->Prop}(hk:o.kind=2)(hP:∀W,Below w.heap.size w W ->Cs 15 #[gs,(o.n:Int)] W fun e w'=>∃r:Int,e= .returned (r:Int)/\R e w'):
  Cs 145 #[gs,opV o A n c] w fun e w'=>∃r:Int,e= .returned (r:Int)/\R e w':=by
 have z:=(qaa w.heap.size w).alloc (qab _) (.cells #[(o.kind:Int),(o.n:Int),.slice A n c] 115);have x:=zI (hP _ z);obtain⟨kd,nn,l⟩:=o;simp only at*;subst hk;clear hP z;go_enter Tryz.func145,Tryz.ntmps145;go_wp2_with fail
 refine x.out.mono ?_;rintro e w2 ⟨r,rfl,y⟩;have v:=zI y;clear y;go_wp2_with fail
 go_ret;exact⟨r,rfl,v.out⟩
theorem Jww(o:Ov)(A:Option Addr)(n c gs b off cap:Nat)(w:World){R:World ->Prop}(h:o.Ok)(hl:Smps w A n o.l)(hb:b<w.heap.size)(x0:w.cell? ⟨b,off,none⟩=some (.int .i64 (o.kind:Int)))(x1:w.cell? ⟨b,off+1,none⟩=some (.int .i64 o.n))(x2:w.cell? ⟨b,off+2,none⟩=some (.slice A n c))(hP:∀W,Below w.heap.size w W ->Cs 145 #[gs,opV o A n c] W fun e w'=>e= .returned (0:Int)/\R w'):
  Cs 74 #[gs,.slice (some ⟨b,off,none⟩) 1 cap] w fun e w'=>e= .returned (.tuple #[(1:Int),(0:Int)])/\R w':=by
 have y:=(qaa w.heap.size w).alloc (qab _) (.cells #[(o.kind:Int),(o.n:Int),.slice A n c] 115);have s:=zI (Bx.new w 115 #[(o.kind:Int),(o.n:Int),.slice A n c]);have p:=zI (Jmr o A n c _ h (hl.below y));have u:=zI y;have m:=zI hP;clear h hl y hP;go_enter Tryz.func74,Tryz.ntmps74;go_wp2_with fail
 obtain⟨wq,t⟩:=exE w;go_loopw [11] (fun i wr=>∃k:Nat,k<=1/\i= .int .i64 (k:Int)/\(k=0/\wr=wq\/k=1/\R wr)) (fun i _=>1 - (intOf i).toNat)
 case atStart=>exact⟨0,by omega,rfl,.inl ⟨rfl,t.symm⟩⟩
 case round=>
  obtain⟨k,j,rfl,x⟩:=hrel;rcases x with⟨rfl,rfl⟩ | ⟨rfl,x⟩
  · subst t
    go_wp2_with fail
    refine p.out.mono ?_;rintro e w2 ⟨rfl,z⟩;have d0:=(s.out.below z).at_ 0 (v:= (o.kind:Int)) rfl;have d1:=(s.out.below z).at_ 1 (v:= (o.n:Int)) rfl;have d2:=(s.out.below z).at_ 2 (v:= .slice A n c) rfl;have r:=zI (m.out w2 (u.out.trans (z.mono u.out.size)));clear z;go_wp2_with fail
    refine r.out.mono ?_;rintro e w3 ⟨rfl,x⟩;have q:=zI x;clear x;go_wp2_with fail
    go_roundw
    case rel=>exact⟨1,by omega,rfl,.inr ⟨rfl,q.out⟩⟩
    case measure=>simp[intOf]
  · have q:=zI x
    clear x;go_wp2_with fail
    go_ret2;exact⟨rfl,q.out⟩
open Go.ChangeAt Go.ChangeShapes Go.Deep Go.WideShapes
theorem Jwx(w:World):Cs 83 #[.slice none 0 0] w (RS w (.slice none 0 0)):=by
 have z:=fun (W:World) (a:Option Addr) (n c n' c':Nat)=>Lib.run_eql_slice_nil (P:=Tryz.prog) W _ _ a n c n' c' Tryz.underlying24;go_enter Tryz.func83,Tryz.ntmps83;go_wp2;go_ret;exact⟨rfl,rfl⟩
theorem J8h(ws:List (Int×ByteArray)):∀u∈ws.flatMap Jbv,u.oneCell'=true:=by
 intro u y;obtain⟨x,_,z⟩:=qcq.1 y;simp only[Jbv,qa6,List.mem_nil_iff,or_false] at z;rcases z with rfl | rfl<;>rfl
theorem J8i(ws:List (Int×ByteArray)):(ws.flatMap Jbv).length=ws.length*2:=by
 induction ws with
 | nil=>rfl
 | cons a r ih=>rw[qas,qad,ih,qa3];show 2+r.length*2=_;omega
theorem Jwy{B:Nat}{v:Value}(ws:List (Int×ByteArray))(w:World)(h:w.ownsRow B 156 2 v ws.length (ws.flatMap Jbv))(hn:ws.length<=1000000):
  Cs 84 #[v] w fun e w'=>∃v',e= .returned v'/\w'.ownsRow w.heap.size 156 2 v' ws.length (ws.flatMap Jbv)/\Below w.heap.size w w':=by
 have i:=fun (W:World) (a:Option Addr) (n c n' c':Nat)=>Lib.run_eql_slice_nil (P:=Tryz.prog) W _ _ a n c n' c' Tryz.underlying95;obtain⟨i0,l,u,t,s⟩:=qbx J5v;obtain⟨n,z⟩:=exE ws.length;have r:=zI (show(ws.flatMap Jbv).length=n*2 from by rw[J8i,z]);rw[<- z] at h hn ⊢;clear z;obtain⟨A,c,rfl,p⟩:=Ji1 h
 have x:A=none ->n=0:=by
  rintro rfl;rcases h.2 with⟨_,x⟩ | ⟨_,_,_,e,_⟩
  · exact x
  · cases e
 have o:=zI (p.alloc (.cells #[] 156));clear h p;cases A with
 | none=>
   obtain rfl:=x rfl;have m:ws.flatMap Jbv=[]:=qa1 (by simpa using r.out);rw[m];clear r m x o;go_enter Tryz.func84,Tryz.ntmps84;go_wp2;go_ret;exact⟨_,rfl,qax _ _ _ _,qaa _ _⟩
 | some ad=>
   clear x;go_enter Tryz.func84,Tryz.ntmps84;go_wp2_with (at_builtin;refine Jan _ rfl _ _ 95 rfl w.heap.size 156 i0 _ 2 24 Tryz.underlying95 l u t s rfl (by decide) (.slice (some ⟨w.heap.size,0,none⟩) 0 0) 0 [] rfl (World.ownsRow_made w #[] 0 (qab _) (qaq _) (by simp)) (some ad) n c _ rfl r.out o.out (J8h ws) ?c4 ?c5 ?c6 ?_;(unfold maxLen;omega);(omega);(simp);intro v' w1 y q _)
   go_ret;refine⟨_,rfl,by simpa using y,((qaa _ w).alloc (qab _) _).grown q (by simp) (by intro k j;simp[Value.ownBlock] at j;omega)⟩
theorem Jwz{b n:Nat}{f:Int ->Option ByteArray}{w:World}(h:SMap w b n f):
  Cs 85 #[.map (some b)] w fun e w'=>e= .returned (.map (some w.heap.size))/\SMap w' w.heap.size n f/\Below w.heap.size w w':=by
 obtain⟨D,z,y⟩:=h.own;refine(AnyW.maps_Clone_owns Tryz.cloneD 3 (plainElem Tryz.prog 9) b n D w z).mono ?_;rintro e w' ⟨x,v,_,u⟩;exact⟨x,⟨D,v,y⟩,u⟩
theorem Jon{w w':World}{B:Nat}{e:TypeId}{k:Nat}{v:Value}{n:Nat}{xs:List Value}(h:w.ownsRow B e k v n xs)(hk:∀b,v.ownBlock=some b ->b<w.heap.size ->w'.heap[b]? =w.heap[b]?):w'.ownsRow B e k v n xs:=by
 refine⟨h.1,?_⟩;rcases h.2 with x | ⟨g',cap,cur,rfl,z,y,rest⟩
 · exact .inl x
 · exact .inr ⟨g',cap,cur,rfl,z,(hk g' rfl (qb2 y)).trans y,rest⟩
theorem Jmz{b n:Nat}{f:Int ->Option ByteArray}{w3 W:World}(h:SMap w3 b n f)(hW:Below w3.heap.size w3 W):
  Cs 85 #[.map (some b)] W fun e w'=>∃m,e= .returned (.map (some m))/\SMap w' m n f/\W.heap.size<=m/\m<w'.heap.size/\Below W.heap.size W w':=by
 refine(Jwz (h.below hW)).mono ?_;rintro e w' ⟨y,z,x⟩;exact⟨W.heap.size,y,z,qab _,z.lt,x⟩
theorem Ju0{w:World}{B:Nat}{e:TypeId}{k:Nat}{v:Value}{n:Nat}{xs:List Value}(h:w.ownsRow B e k v n xs):∀b,v.ownBlock=some b ->B<=b:=by
 intro b y;rcases h.2 with⟨rfl,_⟩ | ⟨g',cap,cur,rfl,z,_⟩
 · cases y
 · cases y;exact z
theorem J1i{w w1 w2:World}{g1 N nw mn ml c c2:Nat}{wr left:Int}{A A2:Option Addr}{xs:List Value}(hg:w.heap.size<=g1)(hz:w1.heap.size=g1+1)(hx:Bx w1 g1 97 #[true,(wr:Int),false,(left:Int),.slice none 0 0,(N:Int),.map (some mn),.map (some ml),.slice A nw c])(hb1:Below w.heap.size w w1)(hb2:Below w1.heap.size w1 w2)(hr:w2.ownsRow w1.heap.size 156 2 (.slice A2 nw c2) nw xs):
  Bx ((w2.setCell ⟨g1,4,none⟩ (.slice none 0 0)).setCell ⟨g1,8,none⟩ (.slice A2 nw c2)) g1 97 #[true,(wr:Int),false,(left:Int),.slice none 0 0,(N:Int),.map (some mn),.map (some ml),.slice A2 nw c2]/\
   ((w2.setCell ⟨g1,4,none⟩ (.slice none 0 0)).setCell ⟨g1,8,none⟩ (.slice A2 nw c2)).ownsRow (g1+1) 156 2 (.slice A2 nw c2) nw xs/\
   Below w.heap.size w ((w2.setCell ⟨g1,4,none⟩ (.slice none 0 0)).setCell ⟨g1,8,none⟩ (.slice A2 nw c2)):=by
 refine⟨((hx.below hb2).set 4 _).set 8 _,?_,((hb1.trans (hb2.mono hb1.size)).setCell hg _).setCell hg _⟩;rw[hz] at hr;exact Jon hr (fun b hbo _=>by have:=Ju0 hr b hbo;rw[qcu _ _ _ _ (by show b≠g1;omega),qcu _ _ _ _ (by show b≠g1;omega)])
theorem J8j{w w3 wL w':World}{g1 N n nw m4 m5 mn ml c2:Nat}{wr left:Int}{A2:Option Addr}{f fl:Int ->Option ByteArray}{ws:List (Int×ByteArray)}(hN:1<=N/\N<=4096)(hnw:nw=ws.length)(hg:w.heap.size<=g1/\g1<w3.heap.size)(hb:Below w.heap.size w w3)(h3:Below w3.heap.size w3 wL)(hx:Bx w3 g1 97 #[true,(wr:Int),false,(left:Int),.slice none 0 0,(N:Int),.map (some mn),.map (some ml),.slice A2 nw c2])(hr:w3.ownsRow (g1+1) 156 2 (.slice A2 nw c2) nw (ws.flatMap Jbv))(h4:SMap wL m4 n f)(h5:SMap wL m5 n fl)(hne:m4≠m5)(hm:w3.heap.size<=m4/\w3.heap.size<=m5)(hw:w'=(wL.setCell ⟨g1,6,none⟩ (.map (some m4))).setCell ⟨g1,7,none⟩ (.map (some m5))\/w'=(wL.setCell ⟨g1,7,none⟩ (.map (some m5))).setCell ⟨g1,6,none⟩ (.map (some m4))):
  Jbb w' w.heap.size g1 m4 m5 N n f fl ws (.slice A2 nw c2)/\(∀b,dkF g1 m4 m5 (.slice A2 nw c2) b ->w.heap.size<=b)/\Below w.heap.size w w':=by
 have z:=hx.below h3;have x:=hb.trans (h3.mono hb.size)
 have v:Bx w' g1 97 #[true,(wr:Int),false,(left:Int),.slice none 0 0,(N:Int),.map (some m4),.map (some m5),.slice A2 nw c2]:=by
  rcases hw with rfl | rfl
  · exact(z.set 6 _).set 7 _
  · exact(z.set 7 _).set 6 _
 have u:∀b,b≠g1 ->w'.heap[b]? =wL.heap[b]? :=fun b hbn=>by
  rcases hw with rfl | rfl<;>rw[qcu _ _ _ _ hbn,qcu _ _ _ _ hbn]
 have t:Below w.heap.size w w':=by
  rcases hw with rfl | rfl<;>exact(x.setCell hg.1 _).setCell hg.1 _
 have y:=Ju0 hr;refine⟨⟨⟨wr,left,v⟩,?_,h4.keep (u m4 (by omega)),h5.keep (u m5 (by omega)),hne,hN⟩,?_,t⟩
 · subst hnw
   refine Jon (w:=w3) ?_ (fun b hbo hlt=>(u b (by have:=y b hbo;omega)).trans (h3.block b hlt));rcases hr.2 with s | ⟨g',cap,cur,e,r,rest⟩
   · exact⟨hr.1,.inl s⟩
   · exact⟨hr.1,.inr ⟨g',cap,cur,e,by omega,rest⟩⟩
 · rintro b (rfl | rfl | rfl | q)
   · exact hg.1
   · omega
   · omega
   · have:=y b q;omega
theorem J48{B g mn ml N n:Nat}{f fl:Int ->Option ByteArray}{ws:List (Int×ByteArray)}{vW:Value}(w:World)(h:Jbb w B g mn ml N n f fl ws vW)(hws:ws.length<=1000000):
  Cs 29 #[g] w fun e w'=>∃g' mn' ml' vW',e= .returned (g':Nat)/\Jbb w' w.heap.size g' mn' ml' N n f fl ws vW'/\(∀b,dkF g' mn' ml' vW' b ->w.heap.size<=b)/\Below w.heap.size w w':=by
 obtain⟨wr,left,q⟩:=h.ex;obtain⟨A,c,rfl,_⟩:=Ji1 h.row;obtain⟨nw,m⟩:=exE ws.length;rw[<- m] at q;have HX:=zI q;have HD:=zI h;have x0:=q.at_ 0 (v:= true) rfl;have x1:=q.at_ 1 (v:= (wr:Int)) rfl;have x2:=q.at_ 2 (v:= false) rfl;have x3:=q.at_ 3 (v:= (left:Int)) rfl;have x4:=q.at_ 4 (v:= .slice none 0 0) rfl;have x5:=q.at_ 5 (v:= (N:Int)) rfl;have x6:=q.at_ 6 (v:= .map (some mn)) rfl;have x7:=q.at_ 7 (v:= .map (some ml)) rfl;have x8:=q.at_ 8 (v:= .slice A nw c) rfl;obtain⟨g1,l⟩:=exE w.heap.size;obtain⟨w1,p⟩:=exE (w.alloc (.cells #[true,(wr:Int),false,(left:Int),.slice none 0 0,(N:Int),.map (some mn),.map (some ml),.slice A nw c] 97));have o:Below w.heap.size w w1:=by rw[p];exact(qaa _ _).alloc (qab _) _
 have M:w1.heap.size=g1+1:=by rw[p,l];exact qde _ _
 have L:Bx w1 g1 97 #[true,(wr:Int),false,(left:Int),.slice none 0 0,(N:Int),.map (some mn),.map (some ml),.slice A nw c]:=by rw[p,l];exact Bx.new _ _ _
 have u:=zI L;have Hc:=zI o;have Hd:=zI M;have Hm:=zI (h.below o);have k:=zI (q.below o);have He:=zI (fun W (hW:Below w1.heap.size w1 W)=>(show ws.length=nw from m.symm) ▸ Jwy ws W (Jon (h.below o).row (fun b _ hlt=>hW.block b hlt)) hws);have Hf:=zI p;have K:=zI l;have Hg:=zI m;clear h q p l M o L m;go_enter Tryz.func29,Tryz.ntmps29;go_upto_region 4 with fail
 rw[<- Hf.out,<- K.out];have S:=(qaa w1.heap.size w1).drew;have y4:=(k.out.below S).at_ 4 (v:= .slice none 0 0) rfl;have y8:=(k.out.below S).at_ 8 (v:= .slice A nw c) rfl;have z4:=(u.out.below S).at_ 4 (v:= .slice none 0 0) rfl;have z8:=(u.out.below S).at_ 8 (v:= .slice A nw c) rfl;have t4:=(u.out.below S).free 4;have t8:=(u.out.below S).free 8;have J:=zI (show w.heap.size<=g1 from Nat.le_of_eq K.out.symm);clear x0 x1 x2 x3 x4 x5 x6 x7 x8;go_cut [3] (fun s3 wx=>∃A2 c2,s3= .pointer (some ⟨g1,0,none⟩)/\Bx wx g1 97 #[true,(wr:Int),false,(left:Int),.slice none 0 0,(N:Int),.map (some mn),.map (some ml),.slice A2 nw c2]/\wx.ownsRow (g1+1) 156 2 (.slice A2 nw c2) nw (ws.flatMap Jbv)/\Below w.heap.size w wx)
 case first=>
  go_region_with (first
   | (go_at_call 83
      refine(Jwx _).mono ?_;rintro e w2 ⟨rfl,hw⟩;subst hw)
   | (go_at_call 84
      refine(He.out _ (by assumption)).mono ?_;rintro e w2 ⟨v2,rfl,j,I⟩;have x:Below w1.heap.size w1 w2:=(qaa w1.heap.size w1).drew.trans (by simpa using I);have q4:=(k.out.below x).at_ 4 (v:= .slice none 0 0) rfl;have q8:=(k.out.below x).at_ 8 (v:= .slice A nw c) rfl;have r4:=(u.out.below x).at_ 4 (v:= .slice none 0 0) rfl;have r8:=(u.out.below x).at_ 8 (v:= .slice A nw c) rfl;have s4:=(u.out.below x).free 4;have s8:=(u.out.below x).free 8;obtain⟨A2,c2,rfl,_⟩:=Ji1 j;have Hn:=zI j;have Ho:=zI x;have i:=zI (J1i J.out Hd.out u.out Hc.out x j);clear j I x))
  all_goals (go_split_ands;go_wp2_with fail;go_meet;exact⟨A2,c2,rfl,i.out⟩)
 case rest=>
  obtain⟨A2,c2,rfl,t,H,d⟩:=hcut;obtain⟨w3,Hh⟩:=exE wc;subst Hh;have R:=HD.out.below d;have Hi:=zI (fun W (hW:Below w3.heap.size w3 W)=>Jmz R.now hW);have Hj:=zI (fun W (hW:Below w3.heap.size w3 W)=>Jmz R.lasts hW);have a:=HX.out.below d;have r:=zI a;have s:=zI t;have i:=zI (fun wL w' m4 m5 (h3:Below w3.heap.size w3 wL)=>J8j (w':=w') (m4:=m4) (m5:=m5) (n:=n) (f:=f) (fl:=fl) HD.out.size Hg.out ⟨J.out,t.lt⟩ d h3 t H);have V:=(qaa w3.heap.size w3).drew;have y6:=(a.below V).at_ 6 (v:= .map (some mn)) rfl;have y7:=(a.below V).at_ 7 (v:= .map (some ml)) rfl;have z6:=(t.below V).at_ 6 (v:= .map (some mn)) rfl;have z7:=(t.below V).at_ 7 (v:= .map (some ml)) rfl;have t6:=(t.below V).free 6;have t7:=(t.below V).free 7;clear t d H R a S y4 y8 z4 z8 t4 t8;go_upto_region 5 with fail
  go_region_with (first
   | (go_at_call 85
      refine(Hi.out _ (by assumption)).mono ?_;rintro e w4 ⟨m4,rfl,G,F,U,Z⟩;have z:Below w3.heap.size w3 w4:=by first | exact V.trans (by simpa using Z) | exact y.trans (Z.mono y.size)
      have i6:=(r.out.below z).at_ 6 (v:= .map (some mn)) rfl;have i7:=(r.out.below z).at_ 7 (v:= .map (some ml)) rfl;have j6:=(s.out.below z).at_ 6 (v:= .map (some mn)) rfl;have j7:=(s.out.below z).at_ 7 (v:= .map (some ml)) rfl;have k6:=(s.out.below z).free 6;have k7:=(s.out.below z).free 7;have E:=zI G;have P:=zI F;have D:=zI U;have Hk:=zI Z;clear G F U Z)
   | (go_at_call 85
      refine(Hj.out _ (by assumption)).mono ?_;rintro e w5 ⟨m5,rfl,C,hJ,T,Y⟩;have y:Below w3.heap.size w3 w5:=by first | exact V.trans (by simpa using Y) | exact z.trans (Y.mono z.size)
      have i6:=(r.out.below y).at_ 6 (v:= .map (some mn)) rfl;have i7:=(r.out.below y).at_ 7 (v:= .map (some ml)) rfl;have j6:=(s.out.below y).at_ 6 (v:= .map (some mn)) rfl;have j7:=(s.out.below y).at_ 7 (v:= .map (some ml)) rfl;have k6:=(s.out.below y).free 6;have k7:=(s.out.below y).free 7;have Ha:=zI C;have O:=zI hJ;have Hb:=zI T;have Hl:=zI Y;clear C hJ T Y))
  all_goals
   go_wp2_with fail
   go_ret
   first
    | (refine⟨g1,m4,m5,.slice A2 nw c2,rfl,i.out w5 _ m4 m5 y (E.out.below Hl.out) Ha.out ?_ ?_ ?_⟩
       · have:=D.out;have:=O.out;omega
       · have:=P.out;have:=O.out;have:=z.size;have:w3.drew.heap.size=w3.heap.size:=rfl;constructor<;>omega
       · first | exact .inl rfl | exact .inr rfl)
    | (refine⟨g1,m4,m5,.slice A2 nw c2,rfl,i.out w4 _ m4 m5 z E.out (Ha.out.below Hk.out) ?_ ?_ ?_⟩
       · have:=Hb.out;have:=P.out;omega
       · have:=P.out;have:=O.out;have:=y.size;have:w3.drew.heap.size=w3.heap.size:=rfl;constructor<;>omega
       · first | exact .inl rfl | exact .inr rfl)
end Go.Proofs.YtglmhddbhhcjdaaGreatDoor
namespace Go.Proofs.YtglmhddbhhcjdaaGreatDoor
open Go.RowKit
theorem J1j{F:Nat ->Prop}{g N n:Nat}{f fl:Int ->Option ByteArray}{ws:List (Int×ByteArray)}(w:World)(h:DkAt w F g N n f fl ws)(hws:ws.length<=1000000):
  Cs 29 #[g] w fun e w'=>∃g',e= .returned (g':Nat)/\DkAt w' (made w w') g' N n f fl ws/\Below w.heap.size w w':=by
 obtain⟨B,mn,ml,vW,v,_,_⟩:=h.ex;refine(J48 w v hws).mono ?_;rintro e w' ⟨g',mn',ml',vW',rfl,z,y,x⟩;exact⟨g',rfl,⟨⟨w.heap.size,mn',ml',vW',z,x.size,fun b hbk=>⟨y b hbk,z.ins b hbk⟩⟩,Ins.made,h.ws,h.now⟩,x⟩
theorem J1k{F:Nat ->Prop}{g N q:Nat}{f:Int ->Option ByteArray}(w:World)(h:DsAt w F g N q f)(hq:q<=1000000):
  Cs 29 #[g] w fun e w'=>∃g',e= .returned (g':Nat)/\DsAt w' (made w w') g' N q f/\Below w.heap.size w w':=by
 obtain⟨n,fl,ws,z,y,x⟩:=h;refine(J1j w z (by omega)).mono ?_;rintro e w' ⟨g',rfl,v,u⟩;exact⟨g',rfl,⟨n,fl,ws,v,y,x⟩,u⟩
end Go.Proofs.YtglmhddbhhcjdaaGreatDoor
