/- Laws that the walk of the last text wants. -/
import Derived.Test.YtglmhddbhhcjdaaGreatDoorC26
import Derived.Test.YtglmhddbhhcjdaaGreatDoorC14
set_option maxRecDepth 100000
set_option linter.unusedSimpArgs false
set_option maxHeartbeats 4000000
namespace Go.Proofs.YtglmhddbhhcjdaaGreatDoor
open Go.RowKit
def sgN (n:Nat):Nat:=(n+2) / 3
def sgPt (l:List Rc) (p:Nat):List Rc:=(l.drop (3*p)).take 3
def sgL (id tier shard:Nat) (l:List Rc):List ByteArray:=(List.range (sgN l.length)).map fun p=>strOf (sgBk id tier shard p (sgN l.length) (sgPt l p))
theorem Jef(n:Nat)(w:World)(h:n<=1000000):Cs 310 #[(n:Int)] w (RS w (sgN n:Int)):=by
 by_cases y:n<1
 · have e:n=0:=by omega
   subst e;go_enter Tryz.func310,Tryz.ntmps310;go_wp2;go_ret;exact⟨rfl,rfl⟩
 · have x:decide ((n:Int)<1)=false:=qae (by omega)
   have z:=zI (show((n:Int) - 1) / 3+1=(sgN n:Int) from by unfold sgN;omega);go_enter Tryz.func310,Tryz.ntmps310;go_wp2;go_ret;exact⟨by rw[<- z.out];rfl,rfl⟩
theorem Jli(l:List Rc):(l.flatMap Rc.cells).length=l.length*7:=by
 induction l with
 | nil=>rfl
 | cons a r ih=>rw[qau,qad,ih,qa3];show 7+_=_;omega
theorem Rcs.part{w:World}{b off n:Nat}{l:List Rc}(h:Rcs w (some ⟨b,off,none⟩) n l)(i q:Nat):Rcs w (some ⟨b,off+i*7,none⟩) ((l.drop i).take q).length ((l.drop i).take q):=by
 have y:∀r∈(l.drop i).take q,r∈l:=fun r hr=>qc0 (qbi hr);refine⟨⟨fun hne=> ?_⟩,rfl,?_,fun r hr=>h.nm r (y r hr),fun r hr=>h.st r (y r hr),fun r hr=>h.ok r (y r hr)⟩
 · have v:i<=l.length:=by
    rcases Nat.le_total i l.length with x | x
    · exact x
    · rw[List.drop_eq_nil_of_le x] at hne;simp at hne
   have z:l.flatMap Rc.cells≠[]:=by
    intro e;have:l.length*7=0:=by rw[<- Jli,e];rfl
    have:l=[]:=qa5 (by omega);rw[this] at hne;simp at hne
   obtain⟨b',off',e,t,s⟩:=h.sl.at_ z;cases e
   refine⟨b,off+i*7,rfl,t,fun j u hu=> ?_⟩;rw[qcd];refine s _ _ ?_
   have e:l.flatMap Rc.cells=(l.take i).flatMap Rc.cells++(((l.drop i).take q).flatMap Rc.cells++((l.drop i).drop q).flatMap Rc.cells):=by
    rw[<- qav,qa8,<- qav,qa8]
   have p:=(qbs.1 hu).1;rw[e,qb6 (by rw[Jli,qao];omega),Jli,qao,Nat.min_eq_left v,Nat.add_sub_cancel_left,qcf p];exact hu
 · have o:=h.n_le
   have m:=h.len;rw[qao,qa2];omega
set_option linter.unusedSimpArgs false in
theorem Jlj(id tier shard:Nat)(A:Option Addr)(n c:Nat)(l:List Rc)(w:World)(h0:1<=id)(h1:id<18446744073709551616)(h2:tier<10)(h3:shard<8)(hr:Rcs w A n l)(hf:∀r∈l,r.Fine)(ho:l.Pairwise Rc.lt)(hn:n<=10000)(hc:n<=c):
  Cs 283 #[.int .u64 (id:Int),(tier:Int),(shard:Int),.slice A n c] w fun e w'=>∃v,e= .returned (.tuple #[v,(0:Int)])/\w'.ownsRow w.heap.size 9 1 v (sgN n) ((sgL id tier shard l).map Value.string)/\Below w.heap.size w w':=by
 have Hf:=zI (Jhl id tier shard w h0 h2 h3);have U:=zI hr.len;have HR:=zI hr;have Hg:=zI (fun r (hr:r∈l) W=>Jqx r W (hf r hr));have Hh:=zI ho;have Hi:=zI hf;have Hj:=zI h1;clear h1 hr hf ho;go_enter Tryz.func283,Tryz.ntmps283;go_wp2_with fail
 refine Hf.out.mono ?_;rintro e w1 ⟨rfl,hw⟩;subst hw;go_wp2_with fail
 go_loopw [24] (fun i wr=>∃k:Nat,k<=n/\i= .int .i64 (k:Int)/\Below w.heap.size w wr) (fun i _=>n - (intOf i).toNat)
 case atStart=>exact⟨0,qaq _,rfl,qaa _ _⟩
 case round=>
  obtain⟨k,hk,rfl,a⟩:=hrel;by_cases F:k<n
  · have K:k<l.length:=by rw[U.out];exact F
    obtain⟨b,off,rfl,Hk,R⟩:=(HR.out.below a).get K;have HV:=zI (Hg.out l[k] (qan K));have E:=zI a;have d:=(qaa wr.heap.size wr).alloc (qab _) (.cells #[.string l[k].nm,(l[k].st:Int),(l[k].ag.c:Int),(l[k].ag.hi:Int),.int .u64 l[k].ag.lo,(l[k].ag.mn:Int),(l[k].ag.mx:Int)] 142);have D:=zI (E.out.trans (d.mono E.out.size));by_cases C:k=0
    · have H9:=zI C
      have d1:decide ((0:Int)<(k:Int))=false:=qae (by omega);have d2:decide (0<k)=false:=qae (by omega);generalize l[k]'K=x at*;obtain⟨r0,r1,r2,r3,r4,r5,r6⟩:=R;clear a C d;have X0:=(Jbv.new wr x).keep (Jab ((qaa _ (wr.alloc (.cells #[x.nm,(x.st:Int),(x.ag.c:Int),(x.ag.hi:Int),.int .u64 x.ag.lo,(x.ag.mn:Int),(x.ag.mx:Int)] 142))).drew) none) (by simp);have P:=zI D.out.drew;go_upto_region 6 with fail
      refine wp_region_held_drew (S:=(fun w'=>w'.cell? ⟨wr.heap.size,0,none⟩=some (.string x.nm)/\w'.cell? ⟨wr.heap.size,1,none⟩=some (.int .i64 x.st)/\w'.cell? ⟨wr.heap.size,2,none⟩=some (.int .i64 x.ag.c)/\w'.cell? ⟨wr.heap.size,3,none⟩=some (.int .i64 x.ag.hi)/\w'.cell? ⟨wr.heap.size,4,none⟩=some (.int .u64 x.ag.lo)/\w'.cell? ⟨wr.heap.size,5,none⟩=some (.int .i64 x.ag.mn)/\w'.cell? ⟨wr.heap.size,6,none⟩=some (.int .i64 x.ag.mx)/\Below w.heap.size w w')) (by kernel_rfl) ?_ (fun hHeld=> ?_)
      · exact⟨X0.c0,X0.c1,X0.c2,X0.c3,X0.c4,X0.c5,X0.c6,P.out⟩
      refine tkE 0 ?_
      try simp only[qai,qag,qaf,Act.put,qac,qak,qal]
      refine wpAnyH_ready (rs:=[1]) (by kernel_rfl) (by simp) (AllReadyH.cons (o:=_) rfl (fun K hK=> ?_) AllReadyH.nil);go_simp
      go_at_call 335
      refine(HV.out _).mono ?_;rintro e w2 ⟨rfl,Y⟩;refine hK.out _ _ ?_ (fun hHeld=> ?_)
      · (obtain⟨_,_,_,_,_,_,_,g⟩:=hHeld;have X2:=(Jbv.mk (w:=_) (b:=wr.heap.size) (off:=0) (r:=x) (by assumption) (by assumption) (by assumption) (by assumption) (by assumption) (by assumption) (by assumption)).keep (Jab Y none) (by simp);exact⟨X2.c0,X2.c1,X2.c2,X2.c3,X2.c4,X2.c5,X2.c6,g.trans (Y.mono g.size)⟩)
      clear hK K
      try simp only[qai,qag,qaf,Act.put,qac,qak,qal]
      refine tkE 2 ?_
      try simp only[qai,qag,qaf,Act.put,qac,qak,qal]
      refine tkE 3 ?_
      try simp only[qai,qag,qaf,Act.put,qac,qak,qal]
      refine tkE 4 ?_
      try simp only[qai,qag,qaf,Act.put,qac,qak,qal]
      refine tkE 5 ?_
      try simp only[qai,qag,qaf,Act.put,qac,qak,qal]
      refine tkE 6 ?_
      try simp only[qai,qag,qaf,Act.put,qac,qak,qal]
      refine skE 7 ?_
      try simp only[qai,qag,qaf,Act.put,qac,qak,qal]
      refine skE 8 ?_
      try simp only[qai,qag,qaf,Act.put,qac,qak,qal]
      refine skE 9 ?_
      try simp only[qai,qag,qaf,Act.put,qac,qak,qal]
      refine skE 10 ?_
      try simp only[qai,qag,qaf,Act.put,qac,qak,qal]
      refine skE 11 ?_
      try simp only[qai,qag,qaf,Act.put,qac,qak,qal]
      refine skE 12 ?_
      try simp only[qai,qag,qaf,Act.put,qac,qak,qal]
      refine skE 13 ?_
      try simp only[qai,qag,qaf,Act.put,qac,qak,qal]
      refine skE 14 ?_
      try simp only[qai,qag,qaf,Act.put,qac,qak,qal]
      refine tkE 15 ?_
      try simp only[qai,qag,qaf,Act.put,qac,qak,qal]
      refine tkE 16 ?_
      try simp only[qai,qag,qaf,Act.put,qac,qak,qal]
      refine wpAnyH_done (by kernel_rfl) ?_ _;go_wp2_with fail
      go_roundw
      case rel=>exact⟨k+1,by omega,by go_num,by obtain⟨_,_,_,_,_,_,_,h⟩:=hHeld;exact h⟩
      case measure=>simp[intOf];omega
    · obtain⟨j,rfl⟩:∃j,k=j+1:=⟨k - 1,by omega⟩
      have J:j<l.length:=(by omega);have d1:decide ((0:Int)<((j+1:Nat):Int))=true:=qaj (by omega);have d2:decide (0<j+1)=true:=qaj (by omega);obtain⟨b',off',e',_,R'⟩:=(HR.out.below a).get J;cases e'
      have Hl:=zI (show Jdu l[j].nm.toList l[j].st l[j+1].nm.toList l[j+1].st=true from(Jce _ _ _ _).2 (List.pairwise_iff_getElem.1 Hh.out j (j+1) J K (by omega)));have B:=zI (fun r s t u v r' s' t' u' v' W=>J39 l[j].nm l[j+1].nm l[j].st l[j+1].st r s t u v r' s' t' u' v' W);rw[Hl.out] at B;generalize l[j+1]'K=x at*;generalize l[j]'J=y at*;have HX:=zI (Jbv.new wr x);have HY:=zI (R'.keep (Jab d none) (by simp));obtain⟨r0,r1,r2,r3,r4,r5,r6⟩:=R;clear a d R';have hJ:=(qaa (wr.alloc (.cells #[x.nm,(x.st:Int),(x.ag.c:Int),(x.ag.hi:Int),.int .u64 x.ag.lo,(x.ag.mn:Int),(x.ag.mx:Int)] 142)).heap.size (wr.alloc (.cells #[x.nm,(x.st:Int),(x.ag.c:Int),(x.ag.hi:Int),.int .u64 x.ag.lo,(x.ag.mn:Int),(x.ag.mx:Int)] 142))).drew;have X0:=HX.out.keep (Jab hJ none) (by simp);have Y0:=HY.out.keep (Jab hJ none) (by simp);have P:=zI D.out.drew;have Ka:(0:Int)<=(j:Int):=(by omega);have Kb:(j:Int)<(n:Int):=(by omega);have Hm:IntKind.i64.wrap (j:Int)=(j:Int):=qbd _ (by omega);go_upto_region 6 with fail
      refine wp_region_held_drew (S:=(fun w'=>w'.cell? ⟨wr.heap.size,0,none⟩=some (.string x.nm)/\w'.cell? ⟨wr.heap.size,1,none⟩=some (.int .i64 x.st)/\w'.cell? ⟨wr.heap.size,2,none⟩=some (.int .i64 x.ag.c)/\w'.cell? ⟨wr.heap.size,3,none⟩=some (.int .i64 x.ag.hi)/\w'.cell? ⟨wr.heap.size,4,none⟩=some (.int .u64 x.ag.lo)/\w'.cell? ⟨wr.heap.size,5,none⟩=some (.int .i64 x.ag.mn)/\w'.cell? ⟨wr.heap.size,6,none⟩=some (.int .i64 x.ag.mx)/\w'.cell? ⟨b,off+j*7,none⟩=some (.string y.nm)/\w'.cell? ⟨b,off+j*7+1,none⟩=some (.int .i64 y.st)/\w'.cell? ⟨b,off+j*7+2,none⟩=some (.int .i64 y.ag.c)/\w'.cell? ⟨b,off+j*7+3,none⟩=some (.int .i64 y.ag.hi)/\w'.cell? ⟨b,off+j*7+4,none⟩=some (.int .u64 y.ag.lo)/\w'.cell? ⟨b,off+j*7+5,none⟩=some (.int .i64 y.ag.mn)/\w'.cell? ⟨b,off+j*7+6,none⟩=some (.int .i64 y.ag.mx)/\Below w.heap.size w w')) (by kernel_rfl) ?_ (fun hHeld=> ?_)
      · exact⟨X0.c0,X0.c1,X0.c2,X0.c3,X0.c4,X0.c5,X0.c6,Y0.c0,Y0.c1,Y0.c2,Y0.c3,Y0.c4,Y0.c5,Y0.c6,P.out⟩
      refine tkE 0 ?_
      try simp only[qai,qag,qaf,Act.put,qac,qak,qal]
      refine wpAnyH_ready (rs:=[1]) (by kernel_rfl) (by simp) (AllReadyH.cons (o:=_) rfl (fun K hK=> ?_) AllReadyH.nil);go_simp
      go_at_call 335
      refine(HV.out _).mono ?_;rintro e w2 ⟨rfl,Y⟩;refine hK.out _ _ ?_ (fun hHeld=> ?_)
      · (obtain⟨_,_,_,_,_,_,_,_,_,_,_,_,_,_,g⟩:=hHeld;have X2:=(Jbv.mk (w:=_) (b:=wr.heap.size) (off:=0) (r:=x) (by assumption) (by assumption) (by assumption) (by assumption) (by assumption) (by assumption) (by assumption)).keep (Jab Y none) (by simp);have Y2:=(Jbv.mk (w:=_) (b:=b) (off:=off+j*7) (r:=y) (by assumption) (by assumption) (by assumption) (by assumption) (by assumption) (by assumption) (by assumption)).keep (Jab Y none) (by simp);exact⟨X2.c0,X2.c1,X2.c2,X2.c3,X2.c4,X2.c5,X2.c6,Y2.c0,Y2.c1,Y2.c2,Y2.c3,Y2.c4,Y2.c5,Y2.c6,g.trans (Y.mono g.size)⟩)
      clear hK K
      try simp only[qai,qag,qaf,Act.put,qac,qak,qal]
      refine tkE 2 ?_
      try simp only[qai,qag,qaf,Act.put,qac,qak,qal]
      refine tkE 3 ?_
      try simp only[qai,qag,qaf,Act.put,qac,qak,qal]
      refine tkE 4 ?_
      try simp only[qai,qag,qaf,Act.put,qac,qak,qal]
      refine tkE 5 ?_
      try simp only[qai,qag,qaf,Act.put,qac,qak,qal]
      refine tkE 6 ?_
      try simp only[qai,qag,qaf,Act.put,qac,qak,qal]
      refine tkE 7 ?_
      try simp only[qai,qag,qaf,Act.put,qac,qak,qal]
      refine tkE 8 ?_
      try simp only[qai,qag,qaf,Act.put,qac,qak,qal]
      refine tkE 9 ?_
      try simp only[qai,qag,qaf,Act.put,qac,qak,qal]
      refine tkE 10 ?_
      try simp only[qai,qag,qaf,Act.put,qac,qak,qal]
      refine tkE 11 ?_
      try simp only[qai,qag,qaf,Act.put,qac,qak,qal]
      refine tkE 12 ?_
      try simp only[qai,qag,qaf,Act.put,qac,qak,qal]
      refine wpAnyH_ready (rs:=[13]) (by kernel_rfl) (by simp) (AllReadyH.cons (o:=_) rfl (fun K hK=> ?_) AllReadyH.nil);go_simp
      go_at_call 336
      refine(B.out _ _ _ _ _ _ _ _ _ _ _).mono ?_;rintro e w3 ⟨rfl,V⟩;refine hK.out _ _ ?_ (fun hHeld=> ?_)
      · (obtain⟨_,_,_,_,_,_,_,_,_,_,_,_,_,_,g⟩:=hHeld;have X2:=(Jbv.mk (w:=_) (b:=wr.heap.size) (off:=0) (r:=x) (by assumption) (by assumption) (by assumption) (by assumption) (by assumption) (by assumption) (by assumption)).keep (Jab V none) (by simp);have Y2:=(Jbv.mk (w:=_) (b:=b) (off:=off+j*7) (r:=y) (by assumption) (by assumption) (by assumption) (by assumption) (by assumption) (by assumption) (by assumption)).keep (Jab V none) (by simp);exact⟨X2.c0,X2.c1,X2.c2,X2.c3,X2.c4,X2.c5,X2.c6,Y2.c0,Y2.c1,Y2.c2,Y2.c3,Y2.c4,Y2.c5,Y2.c6,g.trans (V.mono g.size)⟩)
      clear hK K
      try simp only[qai,qag,qaf,Act.put,qac,qak,qal]
      refine tkE 14 ?_
      try simp only[qai,qag,qaf,Act.put,qac,qak,qal]
      refine tkE 15 ?_
      try simp only[qai,qag,qaf,Act.put,qac,qak,qal]
      refine tkE 16 ?_
      try simp only[qai,qag,qaf,Act.put,qac,qak,qal]
      refine wpAnyH_done (by kernel_rfl) ?_ _;clear Hm;go_wp2_with fail
      go_roundw
      case rel=>exact⟨j+1+1,by omega,by go_num,by obtain⟨_,_,_,_,_,_,_,_,_,_,_,_,_,_,h⟩:=hHeld;exact h⟩
      case measure=>simp[intOf];omega
  · have Hn:n=k:=by omega
    have O:=zI (Jef n wr (by omega));have d3:decide ((12288:Int)<(n:Int))=false:=qae (by omega);have E:=zI a;obtain⟨N,hN⟩:=exE (sgN n);have HN:=zI hN;have Kc:3*N<n+3:=by rw[hN];unfold sgN;omega
    have Kd:N<=10000:=(by omega);rw[<- hN] at O;clear a Hn hN;go_wp2_with fail
    refine O.out.mono ?_;rintro e w2 ⟨rfl,hw⟩;subst hw;obtain⟨wo,Ha⟩:=exE wr;rw[<- Ha] at E ⊢;clear Ha O;go_wp2_with fail
    go_loopw [12,54] (fun v i wr=>∃p:Nat,p<=N/\i= .int .i64 (p:Int)/\wr.ownsRow w.heap.size 9 1 v p ((List.range p).map fun q=>Value.string (strOf (sgBk id tier shard q N (sgPt l q))))/\Below w.heap.size w wr) (fun _ i _=>N - (intOf i).toNat)
    case atStart=>exact⟨0,qaq _,rfl,qaz _ _ _ _,E.out⟩
    case round=>
     obtain⟨p,hp,rfl,f,a⟩:=hrel;by_cases F:p<N
     · have Ho:3*p<n:=by omega
       have K:3*p<l.length:=by rw[U.out];exact Ho
       have M:=HR.out.below a;obtain⟨b,off,rfl,Hk,_⟩:=M.get K;have Hp:=zI M;have HO:=zI f;have T:=zI a;clear f a M;obtain⟨m,hm⟩:=exE ((sgPt l p).length);have Hq:m=min 3 (n - 3*p):=by rw[hm];unfold sgPt;rw[qao,qa2,U.out]
       have HM:=zI (show(min (((p:Int)+1)*3) (n:Int)).toNat - p*3=m from by omega);have Hb:m<=3:=(by omega)
       have Hr:=zI (show Rcs wr (some ⟨b,off+p*3*7,none⟩) m (sgPt l p) from by
        have:=Hp.out.part (3*p) 3;rw[hm,Nat.mul_comm p 3];exact this)
       have Hs:=zI (show Jws id tier shard p N m from⟨Hj.out,by omega,by omega,by omega,by omega,by omega⟩);have Ht:=zI (show ∀r∈sgPt l p,r.Fine from fun r hr=>Hi.out r (qc0 (qbi hr)));have HK:=zI (show p+1<=1000000 from by omega);have d:=(qaa wr.heap.size wr).alloc (qab _) (.cells #[.int .u64 (id:Int),(tier:Int),(shard:Int),(p:Int),(N:Int),(m:Int)] 389);have Hu:=zI (Jwt id tier shard p N m _ (c - p*3) (sgPt l p) _ Hs.out (Rcs.below Hr.out d) Ht.out Hb);have Hc:=zI d;have Hv:=zI (show((List.range p).map fun q=>Value.string (strOf (sgBk id tier shard q N (sgPt l q))))++[Value.string (strOf (sgBk id tier shard p N (sgPt l p)))]=(List.range (p+1)).map fun q=>Value.string (strOf (sgBk id tier shard q N (sgPt l q))) from by rw[qbw,qbg];rfl);generalize strOf (sgBk id tier shard p N (sgPt l p))=Z at*;clear hm Hq d Hb;go_upto_region 17 with fail
       rw[HM.out];go_wp2_with fail
       refine Hu.out.mono ?_;rintro e w3 ⟨rfl,V⟩;have L:=Hc.out.trans (V.mono Hc.out.size);have I:=L.alloc L.size (.cells #[Z] 9);have Hd:=zI (Jaf HO.out I);have H:=zI (T.out.trans (I.mono T.out.size));have Hw:=zI (Sl.new w3 9 w3.heap.size [Z] #[Z] rfl rfl);have Hx:=zI (show ∀u∈[Value.string Z],u.oneCell'=true from by intro u hu;rw[qa1.1 hu];rfl);clear V L I;go_wp2_with (at_builtin;refine Jkv rfl _ _ rfl Hd.out rfl (some ⟨w3.heap.size,0,none⟩) 1 1 [Z] rfl rfl Hw.out Hx.out HK.out H.out.size ?_;intro A' c' w6 He Hy)
       have Hz:=Jbd Hd.out Hy H.out H.out.size;rw[Hv.out] at He;go_roundw
       case rel=>exact⟨p+1,by omega,by go_num,He,Hz⟩
       case measure=>simp[intOf];omega
     · have G:p=N:=by omega
       have HQ:=zI (show((List.range p).map fun q=>Value.string (strOf (sgBk id tier shard q N (sgPt l q))))=(sgL id tier shard l).map Value.string from by
        unfold sgL;rw[U.out,<- HN.out,qcl,G];rfl)
       rw[HQ.out] at f;have HO:=zI f;have T:=zI a;have H0:=zI (show p=sgN n from G.trans HN.out);obtain⟨Av,cv,rfl,_⟩:=Jao f;clear f a HQ G;go_wp2_with fail
       go_ret2;exact⟨_,rfl,by rw[<- H0.out];exact HO.out,T.out⟩
theorem Ju1:sgN 12288=4096:=by decide
theorem Jf9{id tier shard place of:Nat}{l:List Rc}(hf:∀r∈l,r.Fine)(hl:l.length<=3):(sgBk id tier shard place of l).length=256:=J4y (fun r hr=>(hf r hr).len) hl
structure J0i (id tier shard p N:Nat) (l:List Rc):Prop where
 id0:1<=id
 id:id<18446744073709551616
 tier:tier<10
 shard:shard<8
 p:p<N
 N:N<=4096
 len:1<=l.length/\l.length<=3
 fine:∀r∈l,r.Fine
theorem J0i.hd{id tier shard p N:Nat}{l:List Rc}(h:J0i id tier shard p N l):Jws id tier shard p N l.length:=
 ⟨h.id,by have:=h.tier;omega,by have:=h.shard;omega,by have:=h.p;have:=h.N;omega,by have:=h.N;omega,by have:=h.len;omega⟩
structure Jb8 (w' w:World) (g:Nat) (id tier shard p N n:Nat):Prop where
 blk:Bx w' g 389 #[.int .u64 (id:Int),(tier:Int),(shard:Int),(p:Int),(N:Int),(n:Int)]
 res:Bx w' w.heap.size 389 #[.int .u64 0,(0:Int),(0:Int),(0:Int),(0:Int),(0:Int)]
 bel:Below w.heap.size w w'
theorem Jb8.next{w1 w' w:World}{g id tier shard p N n:Nat}(h:Jb8 w1 w g id tier shard p N n)(hb:Below w1.heap.size w1 w'):Jb8 w' w g id tier shard p N n:=⟨h.blk.below hb,h.res.below hb,h.bel.trans (hb.mono h.bel.size)⟩
theorem Jb8.cells{w' w:World}{g id tier shard p N n:Nat}(h:Jb8 w' w g id tier shard p N n):
  w'.cell? ⟨g,0,none⟩=some (.int .u64 (id:Int))/\w'.cell? ⟨g,1,none⟩=some (.int .i64 (tier:Int))/\w'.cell? ⟨g,2,none⟩=some (.int .i64 (shard:Int))/\w'.cell? ⟨g,3,none⟩=some (.int .i64 (p:Int))/\w'.cell? ⟨g,4,none⟩=some (.int .i64 (N:Int))/\w'.cell? ⟨g,5,none⟩=some (.int .i64 (n:Int)):=
 ⟨h.blk.at_ 0 rfl,h.blk.at_ 1 rfl,h.blk.at_ 2 rfl,h.blk.at_ 3 rfl,h.blk.at_ 4 rfl,h.blk.at_ 5 rfl⟩
theorem Ji6(id tier shard p N:Nat)(l:List Rc)(w:World)(h:J0i id tier shard p N l):
  Cs 281 #[(strOf (sgBk id tier shard p N l))] w (RB w (.tuple #[hdV id tier shard p N l.length,(0:Int)])):=by
 obtain⟨n,hn⟩:=exE l.length;have Ha:(strOf (sgBk id tier shard p N l)).size=256:=by rw[Jaa,Jf9 h.fine h.len.2]
 have e0:sgBk id tier shard p N l=sgM++((le 8 id++(le 1 tier++(le 1 shard++(le 2 p++(le 2 N++(le 2 l.length++zeros 28))))))++(l.flatMap rcB++zeros (208 - (l.flatMap rcB).length))):=by
  simp[sgBk,sgHd,Jqv]
 have hx:(strOf (sgBk id tier shard p N l)).extract 4 48=strOf (le 8 id++(le 1 tier++(le 1 shard++(le 2 p++(le 2 N++(le 2 l.length++zeros 28)))))):=by
  have:=Jc9 sgM (le 8 id++(le 1 tier++(le 1 shard++(le 2 p++(le 2 N++(le 2 l.length++zeros 28)))))) (l.flatMap rcB++zeros (208 - (l.flatMap rcB).length));rw[show sgM.length=4 from rfl,show(le 8 id++(le 1 tier++(le 1 shard++(le 2 p++(le 2 N++(le 2 l.length++zeros 28)))))).length=44 from by simp,<- e0] at this;exact this
 have R:(strOf (sgBk id tier shard p N l)).extract 0 48=strOf (sgHd id tier shard p N l.length):=by
  have:=Jdp (sgHd id tier shard p N l.length) (l.flatMap rcB++zeros (208 - (l.flatMap rcB).length));rw[Jff] at this;exact this
 have f:=zI (fun W=>Ji5 id tier shard p N l.length W h.hd);have x:=zI h.hd;have P:=zI (show ∀W:World,Cs 332 #[.int .u64 (id:Int),(tier:Int),(shard:Int)] W fun e w'=>e= .returned (true:Bool)/\w'=W from fun W=>(Jhl id tier shard W h.id0 h.tier h.shard).mono (fun _ _ ⟨h1,h2⟩=>⟨h1,h2.symm⟩))
 have O:=zI (show ∀W:World,Cs 310 #[(12288:Int)] W fun e w'=>e= .returned (4096:Int)/\w'=W from fun W=>by
  have:=Jef 12288 W (by omega);rw[Ju1] at this;exact this.mono (fun _ _ ⟨h1,h2⟩=>⟨h1,h2.symm⟩))
 have q:=(qaa w.heap.size w).alloc (qab _) (.cells #[.int .u64 0,(0:Int),(0:Int),(0:Int),(0:Int),(0:Int)] 389);have o:=Bx.new w 389 #[.int .u64 0,(0:Int),(0:Int),(0:Int),(0:Int),(0:Int)];obtain⟨w1,m⟩:=exE (w.alloc (.cells #[.int .u64 0,(0:Int),(0:Int),(0:Int),(0:Int),(0:Int)] 389));rw[<- m] at q o;have M:=zI m;have L:=zI o;have d:=zI q;have HF:=zI (ReadW.from_ w1 (qaa _ w1) (le 8 id++(le 1 tier++(le 1 shard++(le 2 p++(le 2 N++(le 2 l.length++zeros 28)))))) (by simp));have K:=h.p;have hN:=h.N;have J:=h.len.1;have I:=h.len.2;rw[<- hn] at f x HF hx R J I ⊢;generalize strOf (sgBk id tier shard p N l)=S at*;clear m q o h hn e0;have d1:decide ((p:Int)<(N:Int))=true:=qaj (by omega);have d2:decide (p<N)=true:=qaj K;have d3:decide ((N:Int)<=4096)=true:=qaj (by omega);have d4:decide ((1:Int)<=(n:Int))=true:=qaj (by omega);have d5:decide ((n:Int)<=3)=true:=qaj (by omega);go_enter Tryz.func281,Tryz.ntmps281;go_upto_region 1 with fail
 rw[<- M.out];go_wp2_with fail
 refine HF.out.mono ?_;rintro e w2 ⟨g,rfl,z⟩;have HS:=zI (ReadW.word id _ z x.out.id (by simp));clear z;go_wp2_with fail
 refine HS.out.mono ?_;rintro e w3 ⟨rfl,z⟩;have H:=zI (ReadW.small 1 tier _ z Jmz (by have:=x.out.tier;simpa using this) (by simp));clear z;go_wp2_with fail
 refine H.out.mono ?_;rintro e w4 ⟨rfl,z⟩;have G:=zI (ReadW.small 1 shard _ z Jmz (by have:=x.out.shard;simpa using this) (by simp));clear z;go_wp2_with fail
 refine G.out.mono ?_;rintro e w5 ⟨rfl,z⟩;have F:=zI (ReadW.small 2 p _ z Jji (by have:=x.out.place;simpa using this) (by simp));clear z;go_wp2_with fail
 refine F.out.mono ?_;rintro e w6 ⟨rfl,z⟩;have E:=zI (ReadW.small 2 N _ z Jji (by have:=x.out.of;simpa using this) (by simp));clear z;go_wp2_with fail
 refine E.out.mono ?_;rintro e w7 ⟨rfl,z⟩;have D:=zI (ReadW.small 2 n _ z Jji (by have:=x.out.n;simpa using this) (by simp));clear z;go_wp2_with fail
 refine D.out.mono ?_;rintro e w8 ⟨rfl,z⟩;have s:=(qaa w8.heap.size w8).alloc (qab _) (.cells #[.int .u64 (id:Int),(tier:Int),(shard:Int),(p:Int),(N:Int),(n:Int)] 389);have c:=L.out.below z.below;have b:=zI (d.out.trans (z.below.mono d.out.size));obtain⟨w9,k⟩:=exE (w8.alloc (.cells #[.int .u64 (id:Int),(tier:Int),(shard:Int),(p:Int),(N:Int),(n:Int)] 389));have y:=Bx.new w8 389 #[.int .u64 (id:Int),(tier:Int),(shard:Int),(p:Int),(N:Int),(n:Int)];rw[<- k] at s y;have C:=zI (c.below s);have A:=zI y;have a:=zI (b.out.trans (s.mono b.out.size));have hJ:=zI k;have s0:=y.at_ 0 (v:= .int .u64 (id:Int)) rfl;have s1:=y.at_ 1 (v:= (tier:Int)) rfl;have s2:=y.at_ 2 (v:= (shard:Int)) rfl;have s3:=y.at_ 3 (v:= (p:Int)) rfl;have s4:=y.at_ 4 (v:= (N:Int)) rfl;have s5:=y.at_ 5 (v:= (n:Int)) rfl;clear z s c k y;go_upto_region 5 with fail
 rw[<- hJ.out];go_quiet ((first | (go_at_call 332;exact qch (P.out _)) | (go_at_call 310;exact qch (O.out _))))
 go_wp2_with fail
 obtain⟨wA,j⟩:=exE (w9.drewN nq);have r:Below w9.heap.size w9 wA:=by rw[j];exact below_drewN (qaa _ _) nq
 have Z:=zI (show Jb8 wA w w8.heap.size id tier shard p N n from⟨A.out.below r,C.out.below r,a.out.trans (r.mono a.out.size)⟩);rw[<- j];clear j r s0 s1 s2 s3 s4 s5;have Y:=zI (Z.out.next (qaa _ _).drew);obtain⟨s0,s1,s2,s3,s4,s5⟩:=Z.out.cells
 go_region_held3 (fun w'=>(w'.cell? ⟨w8.heap.size,0,none⟩=some (.int .u64 (id:Int))/\w'.cell? ⟨w8.heap.size,1,none⟩=some (.int .i64 (tier:Int))/\w'.cell? ⟨w8.heap.size,2,none⟩=some (.int .i64 (shard:Int))/\w'.cell? ⟨w8.heap.size,3,none⟩=some (.int .i64 (p:Int))/\w'.cell? ⟨w8.heap.size,4,none⟩=some (.int .i64 (N:Int))/\w'.cell? ⟨w8.heap.size,5,none⟩=some (.int .i64 (n:Int)))/\Jb8 w' w w8.heap.size id tier shard p N n)
  (first
    | exact⟨Y.out.cells,Y.out⟩
    | (go_split_ands;exact⟨Jb8.cells (Jb8.next (by assumption) V),Jb8.next (by assumption) V⟩)
    | (go_split_ands;exact⟨Jb8.cells (Jb8.next (by assumption) (qaa _ _).drew),Jb8.next (by assumption) (qaa _ _).drew⟩))
  ((go_at_call 333;refine(f.out _).mono ?_;rintro e wc ⟨rfl,V⟩))
 have u:Jb8 wc w w8.heap.size id tier shard p N n:=by
  go_split_ands;assumption
 have U:=zI u;have r0:=u.res.at_ 0 rfl;have r1:=u.res.at_ 1 rfl;have r2:=u.res.at_ 2 rfl;have r3:=u.res.at_ 3 rfl;have r4:=u.res.at_ 4 rfl;have r5:=u.res.at_ 5 rfl;have f0:=u.res.free 0;have f1:=u.res.free 1;have f2:=u.res.free 2;have f3:=u.res.free 3;have f4:=u.res.free 4;have f5:=u.res.free 5;obtain⟨t0,t1,t2,t3,t4,t5⟩:=u.cells;clear u;go_wp2_with fail
 obtain⟨wz,i⟩:=exE (putC wc w.heap.size 0 [.int .u64 (id:Int),(tier:Int),(shard:Int),(p:Int),(N:Int),(n:Int)]);have t:=Jaw U.out.res [.int .u64 (id:Int),(tier:Int),(shard:Int),(p:Int),(N:Int),(n:Int)] rfl;have T:=Jaj (B:=w.heap.size) [.int .u64 (id:Int),(tier:Int),(shard:Int),(p:Int),(N:Int),(n:Int)] (qab _) wc 0;rw[<- i] at t T;simp only[putC,qa7,Nat.reduceAdd] at i;rw[<- i];have q0:=t.at_ 0 rfl;have q1:=t.at_ 1 rfl;have q2:=t.at_ 2 rfl;have q3:=t.at_ 3 rfl;have q4:=t.at_ 4 rfl;have q5:=t.at_ 5 rfl;exact qa6 (v:= .tuple #[hdV id tier shard p N n,(0:Int)]) (by simp[results,Tryz.results281,go_sem,q0,q1,q2,q3,q4,q5]) rfl ⟨rfl,U.out.bel.trans T⟩
theorem Jcz(id tier shard:Nat)(l:List Rc):(sgL id tier shard l).length=sgN l.length:=by simp[sgL]
theorem Ju2{id tier shard:Nat}{l:List Rc}{p:Nat}(h:p<sgN l.length):(sgL id tier shard l)[p]'(by rw[Jcz];exact h)=strOf (sgBk id tier shard p (sgN l.length) (sgPt l p)):=by simp[sgL]
theorem Jj0{l:List Rc}{p:Nat}:(sgPt l p).length=min 3 (l.length - 3*p):=by simp[sgPt]
theorem Jcn{l:List Rc}{p:Nat}{r:Rc}(h:r∈sgPt l p):r∈l:=qc0 (qbi h)
theorem Jsz(l:List Rc):∀k,(List.range k).flatMap (sgPt l)=l.take (3*k)
 | 0=>by simp
 | k+1=>by
   rw[qbw,qav,Jsz l k];simp only[qau,qbt,qbp];unfold sgPt;rw[show 3*(k+1)=3*k+3 from by omega,List.take_add]
def hdC (id tier shard N:Nat) (l:List Rc) (p:Nat):List Value:=[.int .u64 (id:Int),(tier:Int),(shard:Int),(p:Int),(N:Int),((sgPt l p).length:Int)]
theorem J0j(id tier shard N:Nat)(l:List Rc)(p:Nat):∀u∈hdC id tier shard N l p,u.oneCell'=true:=by
 intro u z;simp[hdC] at z;rcases z with rfl | rfl | rfl | rfl | rfl | rfl<;>rfl
def tkN (l:List Rc) (p:Nat):Nat:=(l.take (3*p)).length
structure J0k (w:World) (b off id tier shard p N n:Nat):Prop where
 c0:w.cell? ⟨b,off,none⟩=some (.int .u64 (id:Int))
 c1:w.cell? ⟨b,off+1,none⟩=some (.int .i64 (tier:Int))
 c2:w.cell? ⟨b,off+2,none⟩=some (.int .i64 (shard:Int))
 c3:w.cell? ⟨b,off+3,none⟩=some (.int .i64 (p:Int))
 c4:w.cell? ⟨b,off+4,none⟩=some (.int .i64 (N:Int))
 c5:w.cell? ⟨b,off+5,none⟩=some (.int .i64 (n:Int))
theorem Kal{w:World}{A:Option Addr}{id tier shard N m:Nat}{l:List Rc}(h:Sl w A ((List.range m).flatMap (hdC id tier shard N l))){p:Nat}(hp:p<m):
  ∃b off,A=some ⟨b,off,none⟩/\b<w.heap.size/\J0k w b (off+p*6) id tier shard p N (sgPt l p).length:=by
 have z:=Jca (cs:=hdC id tier shard N l) (k:=6) (fun _=>rfl) (List.range m);have x:(List.range m).flatMap (hdC id tier shard N l)≠[]:=fun e=>by rw[e,List.length_range] at z;simp at z;omega
 obtain⟨b,off,rfl,v,y⟩:=h.at_ x;have g:=fun q hq=>Jdh (cs:=hdC id tier shard N l) (k:=6) (fun _=>rfl) (List.range m) p (by simpa using hp) q hq;simp only[List.getElem_range] at g;have c0:=y (p*6+0) _ (g 0 (by omega));have c1:=y (p*6+1) _ (g 1 (by omega));have c2:=y (p*6+2) _ (g 2 (by omega));have c3:=y (p*6+3) _ (g 3 (by omega));have c4:=y (p*6+4) _ (g 4 (by omega));have c5:=y (p*6+5) _ (g 5 (by omega));rw[<- qcd] at c0 c1 c2 c3 c4 c5;exact⟨b,off,rfl,v,⟨c0,c1,c2,c3,c4,c5⟩⟩
theorem Jop{w:World}{B:Nat}{e:TypeId}{k n c:Nat}{A:Option Addr}{xs:List Value}(h:w.ownsRow B e k (.slice A n c) n xs):n<=c:=by
 rcases h.2 with⟨e1,e2⟩ | ⟨g,cap,cur,e1,_,_,z,_⟩
 · cases e1;omega
 · cases e1;exact z
theorem Rc.Fine.wf{r:Rc}(h:r.Fine):(Lit.int .i64 r.st).wf=true:=by
 have:=h.st;have e1:IntKind.i64.min= -9223372036854775808/\IntKind.i64.max=9223372036854775807:=by decide
 simp[Lit.wf,e1.1,e1.2];omega
theorem Jm1{w:World}{A:Option Addr}{l:List Rc}(hs:Sl w A (l.flatMap Rc.cells))(hf:∀r∈l,r.Fine)(hn:l.length<=1000000):Rcs w A l.length l:=
 ⟨hs,rfl,by unfold maxLen;omega,fun r hr=>(hf r hr).ok.nm,fun r hr=>(hf r hr).wf,fun r hr=>(hf r hr).ok.ag.ok⟩
theorem J0l{id tier shard p N:Nat}{l:List Rc}(hf:∀r∈l,r.Fine):(strOf (sgBk id tier shard p N l)).extract 48 (48+64*l.length)=strOf (l.flatMap rcB):=by
 have:=Jc9 (sgHd id tier shard p N l.length) (l.flatMap rcB) (zeros (208 - (l.flatMap rcB).length));rw[Jff,Jbp (fun r hr=>(hf r hr).len)] at this;rw[<- this];unfold sgBk;rw[Jbp (fun r hr=>(hf r hr).len)]
theorem J0m(id tier shard:Nat)(B:Option Addr)(m d:Nat)(l:List Rc)(w:World)(h0:1<=id)(h1:id<18446744073709551616)(h2:tier<10)(h3:shard<8)(hf:∀r∈l,r.Fine)(ho:l.Pairwise Rc.lt)(hn:l.length<=10000)(hne:l≠[])(hB:Strs w B m (sgL id tier shard l)):
  Cs 214 #[.int .u64 (id:Int),(tier:Int),(shard:Int),.slice B m d] w fun e w'=>∃v,e= .returned (.tuple #[v,(0:Int)])/\w'.ownsRow w.heap.size 142 7 v l.length (l.flatMap Rc.cells)/\Below w.heap.size w w':=by
 obtain⟨N,T⟩:=exE (sgN l.length);have hm:m=N:=by rw[<- hB.len,Jcz,T]
 have Kq:1<=l.length:=qdd.2 hne;have Kr:1<=N:=by rw[T];unfold sgN;omega
 have Ks:3*N<l.length+3:=by rw[T];unfold sgN;omega
 have Kt:N<=4000:=by omega
 subst hm;have E:=zI (show ∀p,p<m ->J0i id tier shard p m (sgPt l p) from fun p hp=>⟨h0,h1,h2,h3,hp,by omega,by rw[Jj0];omega,fun r hr=>hf r (Jcn hr)⟩);have D:=zI (show ∀p (K:p<(sgL id tier shard l).length),(sgL id tier shard l)[p]=strOf (sgBk id tier shard p m (sgPt l p)) from fun p K=>by rw[Ju2 (by rw[Jcz] at K;exact K),<- T]);have R:=zI (show(sgL id tier shard l).length=m from by rw[Jcz,T]);have P:=zI hB;have HH:=zI (show 1<=id/\id<18446744073709551616/\tier<10/\shard<8 from⟨h0,h1,h2,h3⟩);have HF:=zI hf;have Hs:=zI ho;have C:=zI T;clear h0 h1 h2 h3 hf ho hne hB T;go_enter Tryz.func214,Tryz.ntmps214;go_wp2_with fail
 go_loopw [11,26] (fun v i wr=>∃k:Nat,k<=m/\i= .int .i64 (k:Int)/\wr.ownsRow w.heap.size 389 6 v k ((List.range k).flatMap (hdC id tier shard m l))/\Below w.heap.size w wr) (fun _ i _=>m - (intOf i).toNat)
 case atStart=>exact⟨0,qaq _,rfl,qaz _ _ _ _,qaa _ _⟩
 case round=>
  obtain⟨k,hk,rfl,z,f⟩:=hrel;by_cases x:k<m
  · have K:k<(sgL id tier shard l).length:=by rw[R.out];exact x
    obtain⟨b,off,rfl,A,y⟩:=(P.out.below f).get K;rw[D.out k K] at y;have HR:=zI (Ji6 id tier shard k m (sgPt l k) wr (E.out k x));obtain⟨n,t⟩:=exE ((sgPt l k).length)
    have Ht:=zI (show(List.range k).flatMap (hdC id tier shard m l)++[.int .u64 (id:Int),.int .i64 (tier:Int),.int .i64 (shard:Int),.int .i64 (k:Int),.int .i64 (m:Int),.int .i64 (n:Int)]=(List.range (k+1)).flatMap (hdC id tier shard m l) from by
     rw[qbw,qav,t];simp[hdC])
    have O:=zI (show ∀u∈([.int .u64 (id:Int),(tier:Int),(shard:Int),(k:Int),(m:Int),(n:Int)]:List Value),u.oneCell'=true from by
     have:=J0j id tier shard m l k;unfold hdC at this;rw[<- t] at this;exact this)
    have HK:=zI (show k+1<=1000000 from by omega);rw[<- t] at HR;generalize strOf (sgBk id tier shard k m (sgPt l k))=S at*;have HO:=zI z;have HB:=zI f;clear z f t;go_wp2_with fail
    refine HR.out.mono ?_;rintro e w2 ⟨rfl,s⟩;have o:=s.alloc s.size (.cells #[.int .u64 (id:Int),(tier:Int),(shard:Int),(k:Int),(m:Int),(n:Int)] 389);have M:=o.alloc o.size (.cells #[.int .u64 (id:Int),(tier:Int),(shard:Int),(k:Int),(m:Int),(n:Int)] 389);have Hu:=zI (Sl.new (w2.alloc (.cells #[.int .u64 (id:Int),(tier:Int),(shard:Int),(k:Int),(m:Int),(n:Int)] 389)) 389 (w2.heap.size+1) [.int .u64 (id:Int),(tier:Int),(shard:Int),(k:Int),(m:Int),(n:Int)] #[.int .u64 (id:Int),(tier:Int),(shard:Int),(k:Int),(m:Int),(n:Int)] (by simp) rfl);have hJ:=zI (Jaf HO.out M);have L:=zI (HB.out.trans (M.mono HB.out.size));clear s o M;go_wp2_with (at_builtin;refine Jsa rfl _ _ rfl hJ.out rfl (some ⟨w2.heap.size+1,0,none⟩) 1 1 _ rfl rfl Hu.out O.out HK.out L.out.size ?_;intro A' c' w5 a J)
    have I:=Jbd hJ.out J L.out L.out.size;rw[Ht.out] at a;go_roundw
    case rel=>exact⟨k+1,by omega,by go_num,a,I⟩
    case measure=>simp[intOf];omega
  · have Hv:k=m:=by omega
    subst Hv;obtain⟨wo,Ha⟩:=exE wr;rw[<- Ha] at z f ⊢;obtain⟨Ah,ch,rfl,Z⟩:=Jao z;have Hw:=zI z;have h:=zI f;clear Ha z f Z;go_wp2_with fail
    go_loopw [10,45] (fun v i wr=>∃p:Nat,p<=k/\i= .int .i64 (p:Int)/\wr.ownsRow wo.heap.size 142 7 v (tkN l p) ((l.take (3*p)).flatMap Rc.cells)/\Below wo.heap.size wo wr) (fun _ i _=>k - (intOf i).toNat)
    case atStart=>exact⟨0,qaq _,rfl,qaz _ _ _ _,qaa _ _⟩
    case round=>
     obtain⟨p,hp,rfl,z,f⟩:=hrel;by_cases x:p<k
     · have K:p<(sgL id tier shard l).length:=by rw[R.out];exact x
       have Hb:=h.out.trans (f.mono h.out.size);obtain⟨b,off,rfl,A,y⟩:=(P.out.below Hb).get K;rw[D.out p K] at y;obtain⟨_,_,e1,Z⟩:=Jao (Jaf Hw.out f);cases e1
       obtain⟨bh,oh,rfl,Ku,HC⟩:=Kal Z x;have c:=E.out p x;have hx:=J0l (id:=id) (tier:=tier) (shard:=shard) (p:=p) (N:=k) c.fine;have Hc:=c.len;have Hd:=zI (show(strOf (sgBk id tier shard p k (sgPt l p))).size=256 from by rw[Jaa,Jf9 c.fine Hc.2]);have He:=zI (fun W=>Jqy (sgPt l p) W c.fine (by omega))
       have Hx:=zI (show(l.take (3*p)).flatMap Rc.cells++(sgPt l p).flatMap Rc.cells=(l.take (3*(p+1))).flatMap Rc.cells from by
        rw[<- qav,<- Jsz,<- Jsz,qbw,qav];simp)
       have Hf:=zI (show tkN l p+(sgPt l p).length=tkN l (p+1) from by
        unfold tkN;rw[<- qad,<- Jsz,<- Jsz,qbw,qav];simp)
       have O:=zI (show ∀u∈(sgPt l p).flatMap Rc.cells,u.oneCell'=true from fun u hu=>by
        obtain⟨r,_,hr⟩:=qcs.1 hu;exact Ju0 r u hr)
       have Hg:=zI (Jli (sgPt l p));have HK:=zI (show tkN l p+(sgPt l p).length<=1000000 from by unfold tkN;rw[qao];omega);obtain⟨n,t⟩:=exE ((sgPt l p).length);rw[<- t] at HC hx Hc He Hf Hg HK;generalize strOf ((sgPt l p).flatMap rcB)=RB at*;have Kv:(strOf (sgBk id tier shard p k (sgPt l p))).size=256:=Hd.out;generalize strOf (sgBk id tier shard p k (sgPt l p))=S at*;obtain⟨s0,s1,s2,s3,s4,s5⟩:=HC;have HO:=zI z;have HB:=zI f;have Hy:=zI hx;clear z f Hb Z t c hx Hd;obtain⟨w1,H⟩:=exE (wr.alloc (.cells #[.int .u64 (id:Int),(tier:Int),(shard:Int),(p:Int),(k:Int),(n:Int)] 389));have Y:=(qaa wr.heap.size wr).alloc (qab _) (.cells #[.int .u64 (id:Int),(tier:Int),(shard:Int),(p:Int),(k:Int),(n:Int)] 389);have g:=Bx.new wr 389 #[.int .u64 (id:Int),(tier:Int),(shard:Int),(p:Int),(k:Int),(n:Int)];rw[<- H] at Y g;have Hz:=zI H;have t0:=g.at_ 0 rfl;have t1:=g.at_ 1 rfl;have t2:=g.at_ 2 rfl;have t3:=g.at_ 3 rfl;have t4:=g.at_ 4 rfl;have t5:=g.at_ 5 rfl;have H0:w1.cell? ⟨b,off+p,none⟩=some (.string S):=(Y.cell (p:=⟨b,off+p,none⟩) A).trans y;clear H;go_upto_region 14 with fail
       rw[<- Hz.out];clear s0 s1 s2 s3 s4 s5 y;go_upto_region 16 with fail
       have H9:S.extract 48 (48+n*64)=RB:=by rw[Nat.mul_comm n 64];exact Hy.out
       have Ka:(0:Int)<=(p:Int):=(by omega);have Kb:(p:Int)<(k:Int):=(by omega);have Kc:(48:Int)<=48+(n:Int)*64:=(by omega);have Kd:(48:Int)+(n:Int)*64<=256:=(by omega);have Ke:IntKind.i64.wrap ((n:Int)*64)=(n:Int)*64:=qbd _ (by omega);have Kf:IntKind.i64.wrap (48+(n:Int)*64)=48+(n:Int)*64:=qbd _ (by omega);have Kg:((48:Int)+(n:Int)*64).toNat=48+n*64:=(by omega);have Hh:=(qaa w1.heap.size w1).drew;have Hi:w1.drew.cell? ⟨b,off+p,none⟩=some (.string S):=H0;have Hj:w1.drew.cell? ⟨wr.heap.size,5,none⟩=some (.int .i64 (n:Int)):=t5
       go_region_held3 (fun w'=>w'.cell? ⟨b,off+p,none⟩=some (.string S)/\w'.cell? ⟨wr.heap.size,5,none⟩=some (.int .i64 (n:Int))/\Below w1.heap.size w1 w')
        (first
          | exact⟨Hi,Hj,Hh⟩
          | (go_split_ands;exact⟨(s.cell (p:=⟨b,off+p,none⟩) (by have:=qba _ _ (by assumption:World.cell? _ ⟨b,off+p,none⟩=some (.string S));simpa using this)).trans (by assumption),(s.cell (p:=⟨wr.heap.size,5,none⟩) (by have:=qba _ _ (by assumption:World.cell? _ ⟨wr.heap.size,5,none⟩=some (.int .i64 (n:Int)));simpa using this)).trans (by assumption),Below.trans (by assumption) (Below.mono s (Below.size (by assumption)))⟩))
        ((go_at_call 282;refine(He.out _).mono ?_;rintro e w2 ⟨v2,rfl,Hk,s⟩))
       obtain⟨A2,c2,rfl,Hl⟩:=Jao Hk;have hS:Below w1.heap.size w1 w2:=by go_split_ands;assumption
       have o:=Y.trans (hS.mono Y.size);have Hm:=zI (Jaf HO.out o);have G:=zI (HB.out.trans (o.mono HB.out.size));have Kh:=zI Hl;clear Ke Kf Kg H9 Ka Kb Kc Kd Hh Hi Hj hS o Hl Hk;go_wp2_with (at_builtin;refine Jt1 rfl _ _ rfl Hm.out rfl A2 n c2 _ rfl Hg.out Kh.out O.out HK.out G.out.size ?_;intro A' c' w5 a J)
       have I:=Jbd Hm.out J G.out G.out.size;go_roundw
       case rel=>exact⟨p+1,by omega,by go_num,by rw[<- Hf.out,<- Hx.out];exact a,I⟩
       case measure=>simp[intOf];omega
     · have Ki:p=k:=by omega
       have Hn:=zI (show l.take (3*p)=l from qap (by have:=C.out;unfold sgN at this;omega));rw[Hn.out,show tkN l p=l.length from by unfold tkN;rw[Hn.out]] at z;obtain⟨Ao,co,rfl,Ho⟩:=Jao z;have Hp:=h.out.trans (f.mono h.out.size);have Kj:=zI (Jlj id tier shard Ao l.length co l wr HH.out.1 HH.out.2.1 HH.out.2.2.1 HH.out.2.2.2 (Jm1 Ho HF.out (by omega)) HF.out Hs.out hn (Jop z));have Kk:=zI z;have Hq:=zI f;have Kl:=zI (P.out.below Hp);clear z f Ho Hp Ki;go_wp2_with fail
       refine Kj.out.mono ?_;rintro e w6 ⟨v6,rfl,F,V⟩;rw[<- C.out] at F;obtain⟨A6,c6,rfl,Hr⟩:=Jao F;have Km:=zI Hr;have Kn:=zI (Jaf Kk.out V);have Ko:=zI (h.out.trans ((Hq.out.trans (V.mono Hq.out.size)).mono h.out.size));have Kp:=zI (Kl.out.below V);have d1:((k:Int)==0)=false:=by rw[qat];omega
       clear F V Hr;go_wp2_with fail
       go_loop [101] (fun i=>∃q:Nat,q<=k/\i= .int .i64 (q:Int)) (fun i=>k - (intOf i).toNat)
       case atStart=>exact⟨0,qaq _,rfl⟩
       case round=>
        obtain⟨q,hq,rfl⟩:=hrel;by_cases x:q<k
        · have K:q<(sgL id tier shard l).length:=by rw[R.out];exact x
          obtain⟨b,off,rfl,_,y⟩:=Kp.out.get K;obtain⟨b',off',rfl,_,U⟩:=Km.out.get (j:=q) (by simpa using K);simp only[qbq] at U;generalize (sgL id tier shard l)[q]'K=S at*;go_wp2_with fail
          go_round
          case rel=>exact⟨q+1,by omega,by go_num⟩
          case measure=>simp[intOf];omega
        · go_wp2_with fail
          go_ret2;exact⟨_,rfl,Jde Kn.out h.out.size,Ko.out⟩
