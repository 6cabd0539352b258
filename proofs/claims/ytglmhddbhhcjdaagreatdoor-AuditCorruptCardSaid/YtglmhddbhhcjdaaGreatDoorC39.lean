/- Laws that the walk of the last text wants. -/
import Derived.Test.YtglmhddbhhcjdaaGreatDoorC37
set_option maxRecDepth 100000
set_option linter.unusedSimpArgs false
set_option maxHeartbeats 4000000
namespace Go.Proofs.YtglmhddbhhcjdaaGreatDoor
open Go.RowKit
structure Jnc (id tier shard p N n:Nat):Prop where
 id:1<=id
 tier:tier<10
 shard:shard<8
 p:p<N
 N:N<=4096
 n:1<=n/\n<=3
theorem Jrk(id tier shard:Nat)(w:World):Cs 332 #[.int .u64 (id:Int),(tier:Int),(shard:Int)] w (RS w (decide (1<=id/\tier<10/\shard<8))):=by
 by_cases h:1<=id/\tier<10/\shard<8
 · rw[qaj h]
   exact Jhl id tier shard w h.1 h.2.1 h.2.2
 · rw [qae h]
   have d1:decide ((0:Int)<=(tier:Int))=true:=qaj (by omega);have d3:decide ((0:Int)<=(shard:Int))=true:=qaj (by omega);by_cases z:1<=id
   · have d0:decide ((0:Int)<(id:Int))=true:=qaj (by omega)
     have d5:decide (0<id)=true:=qaj (by omega);by_cases y:tier<10
     · have d2:decide ((tier:Int)<10)=true:=qaj (by omega)
       have d4:decide ((shard:Int)<8)=false:=qae (by omega);go_enter Tryz.func332,Tryz.ntmps332;go_wp2;go_ret;exact⟨rfl,rfl⟩
     · have d2:decide ((tier:Int)<10)=false:=qae (by omega)
       go_enter Tryz.func332,Tryz.ntmps332;go_wp2;go_ret;exact⟨rfl,rfl⟩
   · have d0:decide ((0:Int)<(id:Int))=false:=qae (by omega)
     have d5:decide (0<id)=false:=qae (by omega);go_enter Tryz.func332,Tryz.ntmps332;go_wp2;go_ret;exact⟨rfl,rfl⟩
theorem Jte(M R B:List UInt8)(id tier shard p N n:Nat)(w:World)(hM:M.length=4)(h:Jws id tier shard p N n)(hR:R.length=28)(hB:B.length=208):
  Cs 281 #[(strOf (M++((le 8 id++(le 1 tier++(le 1 shard++(le 2 p++(le 2 N++(le 2 n++R))))))++B)))] w fun e w'=>(Jnc id tier shard p N n/\M=sgM/\R=zeros 28/\e= .returned (.tuple #[hdV id tier shard p N n,(0:Int)])\/ ¬ (Jnc id tier shard p N n/\M=sgM/\R=zeros 28)/\e= .returned (.tuple #[hdV 0 0 0 0 0 0,(6:Int)]))/\Below w.heap.size w w':=by
 have Hp:(strOf (M++((le 8 id++(le 1 tier++(le 1 shard++(le 2 p++(le 2 N++(le 2 n++R))))))++B))).size=256:=by rw[Jaa];simp[hM,hR,hB]
 have hx:(strOf (M++((le 8 id++(le 1 tier++(le 1 shard++(le 2 p++(le 2 N++(le 2 n++R))))))++B))).extract 4 48=strOf (le 8 id++(le 1 tier++(le 1 shard++(le 2 p++(le 2 N++(le 2 n++R)))))):=by
  have:=Jc9 M (le 8 id++(le 1 tier++(le 1 shard++(le 2 p++(le 2 N++(le 2 n++R)))))) B;rw[hM,show(le 8 id++(le 1 tier++(le 1 shard++(le 2 p++(le 2 N++(le 2 n++R)))))).length=44 from by simp[hR]] at this;exact this
 have C:(strOf (M++((le 8 id++(le 1 tier++(le 1 shard++(le 2 p++(le 2 N++(le 2 n++R))))))++B))).extract 0 48=strOf (M++(le 8 id++(le 1 tier++(le 1 shard++(le 2 p++(le 2 N++(le 2 n++R))))))):=by
  have:=Jdp (M++(le 8 id++(le 1 tier++(le 1 shard++(le 2 p++(le 2 N++(le 2 n++R))))))) B;rw[show(M++(le 8 id++(le 1 tier++(le 1 shard++(le 2 p++(le 2 N++(le 2 n++R))))))).length=48 from by simp[hM,hR],qas] at this;exact this
 have A:=zI (show M++(le 8 id++(le 1 tier++(le 1 shard++(le 2 p++(le 2 N++(le 2 n++R))))))=sgHd id tier shard p N n↔M=sgM/\R=zeros 28 from by
  have e:sgHd id tier shard p N n=sgM++(le 8 id++(le 1 tier++(le 1 shard++(le 2 p++(le 2 N++(le 2 n++zeros 28)))))):=by simp[sgHd,Jqv]
  rw[e];constructor
  · intro k
    have k1:=List.append_inj k (by rw[hM];rfl);refine⟨k1.1,?_⟩;have k2:=k1.2;rw[<- qas,<- qas,<- qas,<- qas,<- qas,<- qas,<- qas,<- qas,<- qas,<- qas] at k2
    simpa using k2
  · rintro⟨rfl,rfl⟩
    rfl)
 have T:=zI (fun W=>Ji5 id tier shard p N n W h);have d:=zI h;have o:=zI hR;have m:=zI (show ∀W:World,Cs 332 #[.int .u64 (id:Int),(tier:Int),(shard:Int)] W fun e w'=>e= .returned (decide (1<=id/\tier<10/\shard<8))/\w'=W from fun W=>(Jrk id tier shard W).mono (fun _ _ ⟨j,V⟩=>⟨j,V.symm⟩))
 have P:=zI (show ∀W:World,Cs 310 #[(12288:Int)] W fun e w'=>e= .returned (4096:Int)/\w'=W from fun W=>by
  have:=Jef 12288 W (by omega);rw[Ju1] at this;exact this.mono (fun _ _ ⟨j,V⟩=>⟨j,V.symm⟩))
 have O:=(qaa w.heap.size w).alloc (qab _) (.cells #[.int .u64 0,(0:Int),(0:Int),(0:Int),(0:Int),(0:Int)] 389);have L:=Bx.new w 389 #[.int .u64 0,(0:Int),(0:Int),(0:Int),(0:Int),(0:Int)];obtain⟨w1,K⟩:=exE (w.alloc (.cells #[.int .u64 0,(0:Int),(0:Int),(0:Int),(0:Int),(0:Int)] 389));rw[<- K] at O L;have He:=zI K;have Hf:=zI L;have hJ:=zI O;have HF:=zI (ReadW.from_ w1 (qaa _ w1) (le 8 id++(le 1 tier++(le 1 shard++(le 2 p++(le 2 N++(le 2 n++R)))))) (by simp[hR]));generalize strOf (M++((le 8 id++(le 1 tier++(le 1 shard++(le 2 p++(le 2 N++(le 2 n++R))))))++B))=S at*;clear K O L h hM hR hB;go_enter Tryz.func281,Tryz.ntmps281;go_upto_region 1 with fail
 rw[<- He.out];go_wp2_with fail
 refine HF.out.mono ?_;rintro e w2 ⟨g,rfl,q⟩;have HS:=zI (ReadW.word id _ q d.out.id (by simp[o.out]));clear q;go_wp2_with fail
 refine HS.out.mono ?_;rintro e w3 ⟨rfl,q⟩;have Hg:=zI (ReadW.small 1 tier _ q Jmz (by have:=d.out.tier;simpa using this) (by simp[o.out]));clear q;go_wp2_with fail
 refine Hg.out.mono ?_;rintro e w4 ⟨rfl,q⟩;have Hh:=zI (ReadW.small 1 shard _ q Jmz (by have:=d.out.shard;simpa using this) (by simp[o.out]));clear q;go_wp2_with fail
 refine Hh.out.mono ?_;rintro e w5 ⟨rfl,q⟩;have Hi:=zI (ReadW.small 2 p _ q Jji (by have:=d.out.place;simpa using this) (by simp[o.out]));clear q;go_wp2_with fail
 refine Hi.out.mono ?_;rintro e w6 ⟨rfl,q⟩;have Hj:=zI (ReadW.small 2 N _ q Jji (by have:=d.out.of;simpa using this) (by simp[o.out]));clear q;go_wp2_with fail
 refine Hj.out.mono ?_;rintro e w7 ⟨rfl,q⟩;have Hk:=zI (ReadW.small 2 n _ q Jji (by have:=d.out.n;simpa using this) (by simp[o.out]));clear q;go_wp2_with fail
 refine Hk.out.mono ?_;rintro e w8 ⟨rfl,q⟩;have f:=(qaa w8.heap.size w8).alloc (qab _) (.cells #[.int .u64 (id:Int),(tier:Int),(shard:Int),(p:Int),(N:Int),(n:Int)] 389);have Ha:=Hf.out.below q.below;have Hb:=zI (hJ.out.trans (q.below.mono hJ.out.size));obtain⟨w9,J⟩:=exE (w8.alloc (.cells #[.int .u64 (id:Int),(tier:Int),(shard:Int),(p:Int),(N:Int),(n:Int)] 389));have l:=Bx.new w8 389 #[.int .u64 (id:Int),(tier:Int),(shard:Int),(p:Int),(N:Int),(n:Int)];rw[<- J] at f l;have I:=zI (Ha.below f);have Hc:=zI l;have c:=zI (Hb.out.trans (f.mono Hb.out.size));have Hl:=zI J;have s0:=l.at_ 0 (v:= .int .u64 (id:Int)) rfl;have s1:=l.at_ 1 (v:= (tier:Int)) rfl;have s2:=l.at_ 2 (v:= (shard:Int)) rfl;have s3:=l.at_ 3 (v:= (p:Int)) rfl;have s4:=l.at_ 4 (v:= (N:Int)) rfl;have s5:=l.at_ 5 (v:= (n:Int)) rfl;clear q f Ha J l;go_upto_region 5 with fail
 rw[<- Hl.out];rcases(show ¬ (1<=id/\tier<10/\shard<8)\/((1<=id/\tier<10/\shard<8)/\N<=p)\/((1<=id/\tier<10/\shard<8)/\p<N/\4096<N)\/((1<=id/\tier<10/\shard<8)/\p<N/\N<=4096/\n<1)\/((1<=id/\tier<10/\shard<8)/\p<N/\N<=4096/\1<=n/\3<n)\/((1<=id/\tier<10/\shard<8)/\p<N/\N<=4096/\1<=n/\n<=3) from by omega) with j | ⟨j,V⟩ | ⟨j,V,h3⟩ | ⟨j,V,h3,h4⟩ | ⟨j,V,h3,h4,h5⟩ | ⟨j,V,h3,h4,h5⟩
 case inr.inr.inr.inr.inr=>
  have x:decide (1<=id/\tier<10/\shard<8)=true:=qaj j;rw[x] at m;have Hm:=zI (show Jnc id tier shard p N n from⟨j.1,j.2.1,j.2.2,V,h3,h4,h5⟩);have d1:decide ((p:Int)<(N:Int))=true:=qaj (by omega);have d2:decide (p<N)=true:=qaj (by omega);have d3:decide ((N:Int)<=4096)=true:=qaj (by omega);have d4:decide ((1:Int)<=(n:Int))=true:=qaj (by omega);have d5:decide ((n:Int)<=3)=true:=qaj (by omega);clear x;by_cases hq:M++(le 8 id++(le 1 tier++(le 1 shard++(le 2 p++(le 2 N++(le 2 n++R))))))=sgHd id tier shard p N n
  · have Hd:=zI (A.out.1 hq)
    rw[hq] at C;go_quiet ((first | (go_at_call 332;exact qch (m.out _)) | (go_at_call 310;exact qch (P.out _))))
    go_wp2_with fail
    obtain⟨wA,s⟩:=exE (w9.drewN nq);have u:Below w9.heap.size w9 wA:=by rw[s];exact below_drewN (qaa _ _) nq
    have b:=zI (show Jb8 wA w w8.heap.size id tier shard p N n from⟨Hc.out.below u,I.out.below u,c.out.trans (u.mono c.out.size)⟩);rw[<- s];clear s u s0 s1 s2 s3 s4 s5;have a:=zI (b.out.next (qaa _ _).drew);obtain⟨s0,s1,s2,s3,s4,s5⟩:=b.out.cells
    go_region_held3 (fun w'=>(w'.cell? ⟨w8.heap.size,0,none⟩=some (.int .u64 (id:Int))/\w'.cell? ⟨w8.heap.size,1,none⟩=some (.int .i64 (tier:Int))/\w'.cell? ⟨w8.heap.size,2,none⟩=some (.int .i64 (shard:Int))/\w'.cell? ⟨w8.heap.size,3,none⟩=some (.int .i64 (p:Int))/\w'.cell? ⟨w8.heap.size,4,none⟩=some (.int .i64 (N:Int))/\w'.cell? ⟨w8.heap.size,5,none⟩=some (.int .i64 (n:Int)))/\Jb8 w' w w8.heap.size id tier shard p N n)
     (first
       | exact⟨a.out.cells,a.out⟩
       | (go_split_ands;exact⟨Jb8.cells (Jb8.next (by assumption) Z),Jb8.next (by assumption) Z⟩)
       | (go_split_ands;exact⟨Jb8.cells (Jb8.next (by assumption) (qaa _ _).drew),Jb8.next (by assumption) (qaa _ _).drew⟩))
     ((go_at_call 333;refine(T.out _).mono ?_;rintro e wc ⟨rfl,Z⟩))
    have y:Jb8 wc w w8.heap.size id tier shard p N n:=by
     go_split_ands;assumption
    have Y:=zI y;have r0:=y.res.at_ 0 rfl;have r1:=y.res.at_ 1 rfl;have r2:=y.res.at_ 2 rfl;have r3:=y.res.at_ 3 rfl;have r4:=y.res.at_ 4 rfl;have r5:=y.res.at_ 5 rfl;have f0:=y.res.free 0;have f1:=y.res.free 1;have f2:=y.res.free 2;have f3:=y.res.free 3;have f4:=y.res.free 4;have f5:=y.res.free 5;obtain⟨t0,t1,t2,t3,t4,t5⟩:=y.cells;clear y;go_wp2_with fail
    obtain⟨wz,r⟩:=exE (putC wc w.heap.size 0 [.int .u64 (id:Int),(tier:Int),(shard:Int),(p:Int),(N:Int),(n:Int)]);have z:=Jaw Y.out.res [.int .u64 (id:Int),(tier:Int),(shard:Int),(p:Int),(N:Int),(n:Int)] rfl;have i:=Jaj (B:=w.heap.size) [.int .u64 (id:Int),(tier:Int),(shard:Int),(p:Int),(N:Int),(n:Int)] (qab _) wc 0;rw[<- r] at z i;simp only[putC,qa7,Nat.reduceAdd] at r;rw[<- r];have q0:=z.at_ 0 rfl;have q1:=z.at_ 1 rfl;have q2:=z.at_ 2 rfl;have q3:=z.at_ 3 rfl;have q4:=z.at_ 4 rfl;have q5:=z.at_ 5 rfl;exact qa6 (v:= .tuple #[hdV id tier shard p N n,(0:Int)]) (by simp[results,Tryz.results281,go_sem,q0,q1,q2,q3,q4,q5]) rfl ⟨.inl ⟨Hm.out,Hd.out.1,Hd.out.2,rfl⟩,Y.out.bel.trans i⟩
  · have H:=zI (show ¬ (Jnc id tier shard p N n/\M=sgM/\R=zeros 28) from fun k=>hq (A.out.2 k.2))
    obtain⟨Z1,G⟩:=exE (strOf (sgHd id tier shard p N n));obtain⟨Z2,F⟩:=exE (strOf (M++(le 8 id++(le 1 tier++(le 1 shard++(le 2 p++(le 2 N++(le 2 n++R))))))))
    have Hq:(Z1.toList==Z2.toList)=false:=by
     rw[qat,G,F,Jdq,Jdq];exact fun k=>hq k.symm
    rw[<- G] at T;rw[<- F] at C;clear hq G F;go_quiet ((first | (go_at_call 332;exact qch (m.out _)) | (go_at_call 310;exact qch (P.out _))))
    go_wp2_with fail
    obtain⟨wA,s⟩:=exE (w9.drewN nq);have u:Below w9.heap.size w9 wA:=by rw[s];exact below_drewN (qaa _ _) nq
    have b:=zI (show Jb8 wA w w8.heap.size id tier shard p N n from⟨Hc.out.below u,I.out.below u,c.out.trans (u.mono c.out.size)⟩);rw[<- s];clear s u s0 s1 s2 s3 s4 s5;have a:=zI (b.out.next (qaa _ _).drew);obtain⟨s0,s1,s2,s3,s4,s5⟩:=b.out.cells
    go_region_held3 (fun w'=>(w'.cell? ⟨w8.heap.size,0,none⟩=some (.int .u64 (id:Int))/\w'.cell? ⟨w8.heap.size,1,none⟩=some (.int .i64 (tier:Int))/\w'.cell? ⟨w8.heap.size,2,none⟩=some (.int .i64 (shard:Int))/\w'.cell? ⟨w8.heap.size,3,none⟩=some (.int .i64 (p:Int))/\w'.cell? ⟨w8.heap.size,4,none⟩=some (.int .i64 (N:Int))/\w'.cell? ⟨w8.heap.size,5,none⟩=some (.int .i64 (n:Int)))/\Jb8 w' w w8.heap.size id tier shard p N n)
     (first
       | exact⟨a.out.cells,a.out⟩
       | (go_split_ands;exact⟨Jb8.cells (Jb8.next (by assumption) Z),Jb8.next (by assumption) Z⟩)
       | (go_split_ands;exact⟨Jb8.cells (Jb8.next (by assumption) (qaa _ _).drew),Jb8.next (by assumption) (qaa _ _).drew⟩))
     ((go_at_call 333;refine(T.out _).mono ?_;rintro e wc ⟨rfl,Z⟩))
    have y:Jb8 wc w w8.heap.size id tier shard p N n:=by
     go_split_ands;assumption
    have Y:=zI y;have r0:=y.res.at_ 0 rfl;have r1:=y.res.at_ 1 rfl;have r2:=y.res.at_ 2 rfl;have r3:=y.res.at_ 3 rfl;have r4:=y.res.at_ 4 rfl;have r5:=y.res.at_ 5 rfl;have f0:=y.res.free 0;have f1:=y.res.free 1;have f2:=y.res.free 2;have f3:=y.res.free 3;have f4:=y.res.free 4;have f5:=y.res.free 5;clear y;go_wp2_with fail
    obtain⟨wz,r⟩:=exE (putC wc w.heap.size 0 [.int .u64 0,(0:Int),(0:Int),(0:Int),(0:Int),(0:Int)]);have z:=Jaw Y.out.res [.int .u64 0,(0:Int),(0:Int),(0:Int),(0:Int),(0:Int)] rfl;have i:=Jaj (B:=w.heap.size) [.int .u64 0,(0:Int),(0:Int),(0:Int),(0:Int),(0:Int)] (qab _) wc 0;rw[<- r] at z i;simp only[putC,qa7,Nat.reduceAdd] at r;rw[<- r];have q0:=z.at_ 0 rfl;have q1:=z.at_ 1 rfl;have q2:=z.at_ 2 rfl;have q3:=z.at_ 3 rfl;have q4:=z.at_ 4 rfl;have q5:=z.at_ 5 rfl;exact qa6 (v:= .tuple #[hdV 0 0 0 0 0 0,(6:Int)]) (by simp[results,Tryz.results281,go_sem,q0,q1,q2,q3,q4,q5]) rfl ⟨.inr ⟨H.out,rfl⟩,Y.out.bel.trans i⟩
 case' inl=>
  have x:decide (1<=id/\tier<10/\shard<8)=false:=qae (by omega);rw[x] at m
 case' inr.inl=>
  have x:decide (1<=id/\tier<10/\shard<8)=true:=qaj j;rw[x] at m;have d1:decide ((p:Int)<(N:Int))=false:=qae (by omega);have d2:decide (p<N)=false:=qae (by omega)
 case' inr.inr.inl=>
  have x:decide (1<=id/\tier<10/\shard<8)=true:=qaj j;rw[x] at m;have d1:decide ((p:Int)<(N:Int))=true:=qaj (by omega);have d2:decide (p<N)=true:=qaj (by omega);have d3:decide ((N:Int)<=4096)=false:=qae (by omega)
 case' inr.inr.inr.inl=>
  have x:decide (1<=id/\tier<10/\shard<8)=true:=qaj j;rw[x] at m;have d1:decide ((p:Int)<(N:Int))=true:=qaj (by omega);have d2:decide (p<N)=true:=qaj (by omega);have d3:decide ((N:Int)<=4096)=true:=qaj (by omega);have d4:decide ((1:Int)<=(n:Int))=false:=qae (by omega)
 case' inr.inr.inr.inr.inl=>
  have x:decide (1<=id/\tier<10/\shard<8)=true:=qaj j;rw[x] at m;have d1:decide ((p:Int)<(N:Int))=true:=qaj (by omega);have d2:decide (p<N)=true:=qaj (by omega);have d3:decide ((N:Int)<=4096)=true:=qaj (by omega);have d4:decide ((1:Int)<=(n:Int))=true:=qaj (by omega);have d5:decide ((n:Int)<=3)=false:=qae (by omega)
 all_goals
  have H:=zI (show ¬ (Jnc id tier shard p N n/\M=sgM/\R=zeros 28) from fun k=>by have j:=k.1.id;have V:=k.1.tier;have h3:=k.1.shard;have h4:=k.1.p;have h5:=k.1.N;have h6:=k.1.n;omega);clear x;go_quiet ((first | (go_at_call 332;exact qch (m.out _)) | (go_at_call 310;exact qch (P.out _))))
  go_wp2_with fail
  obtain⟨wA,s⟩:=exE (w9.drewN nq);have u:Below w9.heap.size w9 wA:=by rw[s];exact below_drewN (qaa _ _) nq
  rw[<- s];have Hn:=zI (I.out.below u);have U:=zI (c.out.trans (u.mono c.out.size));clear s0 s1 s2 s3 s4 s5 s u;go_quiet (fail)
  obtain⟨wB,E⟩:=exE (wA.drewN nq);have D:Below wA.heap.size wA wB:=by rw[E];exact below_drewN (qaa _ _) nq
  rw[<- E];have t:=zI (Hn.out.below D);have Ho:=zI (U.out.trans (D.mono U.out.size));have r0:=t.out.at_ 0 rfl;have r1:=t.out.at_ 1 rfl;have r2:=t.out.at_ 2 rfl;have r3:=t.out.at_ 3 rfl;have r4:=t.out.at_ 4 rfl;have r5:=t.out.at_ 5 rfl;have f0:=t.out.free 0;have f1:=t.out.free 1;have f2:=t.out.free 2;have f3:=t.out.free 3;have f4:=t.out.free 4;have f5:=t.out.free 5;clear E D;go_wp2_with fail
  obtain⟨wz,r⟩:=exE (putC wB w.heap.size 0 [.int .u64 0,(0:Int),(0:Int),(0:Int),(0:Int),(0:Int)]);have z:=Jaw t.out [.int .u64 0,(0:Int),(0:Int),(0:Int),(0:Int),(0:Int)] rfl;have i:=Jaj (B:=w.heap.size) [.int .u64 0,(0:Int),(0:Int),(0:Int),(0:Int),(0:Int)] (qab _) wB 0;rw[<- r] at z i;simp only[putC,qa7,Nat.reduceAdd] at r;rw[<- r];have q0:=z.at_ 0 rfl;have q1:=z.at_ 1 rfl;have q2:=z.at_ 2 rfl;have q3:=z.at_ 3 rfl;have q4:=z.at_ 4 rfl;have q5:=z.at_ 5 rfl;exact qa6 (v:= .tuple #[hdV 0 0 0 0 0 0,(6:Int)]) (by simp[results,Tryz.results281,go_sem,q0,q1,q2,q3,q4,q5]) rfl ⟨.inr ⟨H.out,rfl⟩,Ho.out.trans i⟩
structure Fd where
 id:Nat
 tier:Nat
 shard:Nat
 p:Nat
 N:Nat
 n:Nat
def Fd.bytes (f:Fd) (R:List UInt8):List UInt8:=le 8 f.id++(le 1 f.tier++(le 1 f.shard++(le 2 f.p++(le 2 f.N++(le 2 f.n++R)))))
abbrev Fd.fit (f:Fd):Prop:=Jws f.id f.tier f.shard f.p f.N f.n
abbrev Fd.good (f:Fd):Prop:=Jnc f.id f.tier f.shard f.p f.N f.n
abbrev Fd.cells (f:Fd):List Value:=[.int .u64 (f.id:Int),(f.tier:Int),(f.shard:Int),(f.p:Int),(f.N:Int),(f.n:Int)]
def Je0 (l:List Rc):List UInt8:=l.flatMap rcB++zeros (208 - (l.flatMap rcB).length)
structure Jco (id tier shard:Nat) (l:List Rc) (p0:Nat) (M R:List UInt8) (f:Fd) (m:Nat) (ss:List ByteArray):Prop where
 hid:1<=id/\id<18446744073709551616
 htier:tier<10
 hshard:shard<8
 hfine:∀r∈l,r.Fine
 hord:l.Pairwise Rc.lt
 hfew:l.length<=10000
 hp0:p0<m
 hM:M.length=4
 hR:R.length=28
 hfit:f.fit
 hne: ¬ (M=sgM/\R=zeros 28/\f=⟨id,tier,shard,p0,m,(sgPt l p0).length⟩)
 hm:m=sgN l.length
 hlen:ss.length=m
 hat0:ss[p0]? =some (strOf (M++(f.bytes R++Je0 (sgPt l p0))))
 hat_:∀p,p<m ->p≠p0 ->ss[p]? =some (strOf (sgBk id tier shard p m (sgPt l p)))
section
variable {id tier shard:Nat} {l:List Rc} {p0:Nat} {M R:List UInt8} {f:Fd} {m:Nat} {ss:List ByteArray}
theorem Jco.len1(h:Jco id tier shard l p0 M R f m ss):1<=l.length/\m<=4000:=by
 have y:=h.hp0;have z:=h.hm;have x:=h.hfew;unfold sgN at z;omega
theorem Jco.pt(h:Jco id tier shard l p0 M R f m ss){p:Nat}(hp:p<m):1<=(sgPt l p).length/\(sgPt l p).length<=3:=by
 have z:=h.hm;rw[Jj0];unfold sgN at z;omega
theorem Jco.bk(h:Jco id tier shard l p0 M R f m ss){p:Nat}(hp:p<m):J0i id tier shard p m (sgPt l p):=
 ⟨h.hid.1,h.hid.2,h.htier,h.hshard,hp,by have:=h.len1;omega,h.pt hp,fun r hr=>h.hfine r (Jcn hr)⟩
theorem Jco.body(h:Jco id tier shard l p0 M R f m ss):(Je0 (sgPt l p0)).length=208:=by
 have y:=h.pt h.hp0;have z:=Jbp (l:=sgPt l p0) (fun r hr=>(h.hfine r (Jcn hr)).len);unfold Je0;rw[qad,Jbr,z];omega
theorem Jco.read(h:Jco id tier shard l p0 M R f m ss)(W:World):Cs 281 #[(strOf (M++(f.bytes R++Je0 (sgPt l p0))))] W fun e w'=>(f.good/\M=sgM/\R=zeros 28/\e= .returned (.tuple #[hdV f.id f.tier f.shard f.p f.N f.n,(0:Int)])\/ ¬ (f.good/\M=sgM/\R=zeros 28)/\e= .returned (.tuple #[hdV 0 0 0 0 0 0,(6:Int)]))/\Below W.heap.size W w':=
 Jte M R (Je0 (sgPt l p0)) f.id f.tier f.shard f.p f.N f.n W h.hM h.hfit h.hR h.body
end
theorem Jtf{id tier shard:Nat}{l:List Rc}{p0:Nat}{M R:List UInt8}{f:Fd}{m d:Nat}{ss:List ByteArray}{B:Option Addr}(w:World)(h:Jco id tier shard l p0 M R f m ss)(hB:Strs w B m ss)(hg: ¬ (f.good/\M=sgM/\R=zeros 28)):
  Cs 214 #[.int .u64 (id:Int),(tier:Int),(shard:Int),.slice B m d] w (RB w (.tuple #[(),(6:Int)])):=by
 have U:=zI h;have T:=zI hg;have P:=zI hB;have E:=h.len1.2;have D:=h.hp0;have O:=zI (fun W=>h.read W);clear h hB hg;go_enter Tryz.func214,Tryz.ntmps214;go_wp2_with fail
 go_loopw [11,26] (fun v i wr=>∃k:Nat,k<=p0/\i= .int .i64 (k:Int)/\wr.ownsRow w.heap.size 389 6 v k ((List.range k).flatMap (hdC id tier shard m l))/\Below w.heap.size w wr) (fun _ i _=>m - (intOf i).toNat)
 case atStart=>exact⟨0,qaq _,rfl,qaz _ _ _ _,qaa _ _⟩
 case round=>
  obtain⟨k,hk,rfl,x,j⟩:=hrel;have s:k<m:=by omega
  have K:k<ss.length:=by rw[U.out.hlen];exact s
  obtain⟨b,off,rfl,C,z⟩:=(P.out.below j).get K;by_cases r:k=p0
  · have g:ss[k]=strOf (M++(f.bytes R++Je0 (sgPt l p0))):=by
     have:=U.out.hat0;subst r;rw[qah K] at this;exact qbr this
    rw[g] at z;have c:=zI (O.out wr);obtain⟨S,F⟩:=exE (strOf (M++(f.bytes R++Je0 (sgPt l p0))));rw[<- F] at c z;have a:=zI j;clear x j g F r;go_wp2_with fail
    refine c.out.mono ?_;rintro e w2 ⟨N,y⟩;rcases N with⟨A,h2,h3,_⟩ | ⟨_,rfl⟩
    · exact absurd ⟨A,h2,h3⟩ T.out
    · have Z:=zI (a.out.trans (y.mono a.out.size))
      clear y;go_wp2_with fail
      go_ret2;exact⟨rfl,Z.out.alloc Z.out.size _⟩
  · have g:ss[k]=strOf (sgBk id tier shard k m (sgPt l k)):=by
     have:=U.out.hat_ k s r;rw[qah K] at this;exact qbr this
    rw[g] at z;have c:=zI (Ji6 id tier shard k m (sgPt l k) wr (U.out.bk s));obtain⟨n,t⟩:=exE ((sgPt l k).length)
    have L:=zI (show(List.range k).flatMap (hdC id tier shard m l)++[.int .u64 (id:Int),.int .i64 (tier:Int),.int .i64 (shard:Int),.int .i64 (k:Int),.int .i64 (m:Int),.int .i64 (n:Int)]=(List.range (k+1)).flatMap (hdC id tier shard m l) from by
     rw[qbw,qav,t];simp[hdC])
    have J:=zI (show ∀u∈([.int .u64 (id:Int),(tier:Int),(shard:Int),(k:Int),(m:Int),(n:Int)]:List Value),u.oneCell'=true from by
     have:=J0j id tier shard m l k;unfold hdC at this;rw[<- t] at this;exact this)
    have HK:=zI (show k+1<=1000000 from by omega);rw[<- t] at c;generalize strOf (sgBk id tier shard k m (sgPt l k))=S at*;have HO:=zI x;have a:=zI j;clear x j t g;go_wp2_with fail
    refine c.out.mono ?_;rintro e w2 ⟨rfl,y⟩;have q:=y.alloc y.size (.cells #[.int .u64 (id:Int),(tier:Int),(shard:Int),(k:Int),(m:Int),(n:Int)] 389);have p:=q.alloc q.size (.cells #[.int .u64 (id:Int),(tier:Int),(shard:Int),(k:Int),(m:Int),(n:Int)] 389);have I:=zI (Sl.new (w2.alloc (.cells #[.int .u64 (id:Int),(tier:Int),(shard:Int),(k:Int),(m:Int),(n:Int)] 389)) 389 (w2.heap.size+1) [.int .u64 (id:Int),(tier:Int),(shard:Int),(k:Int),(m:Int),(n:Int)] #[.int .u64 (id:Int),(tier:Int),(shard:Int),(k:Int),(m:Int),(n:Int)] (by simp) rfl);have Y:=zI (Jaf HO.out p);have o:=zI (a.out.trans (p.mono a.out.size));clear y q p;go_wp2_with (at_builtin;refine Jsa rfl _ _ rfl Y.out rfl (some ⟨w2.heap.size+1,0,none⟩) 1 1 _ rfl rfl I.out J.out HK.out o.out.size ?_;intro A' c' w5 V H)
    have G:=Jbd Y.out H o.out o.out.size;rw[L.out] at V;go_roundw
    case rel=>exact⟨k+1,by omega,by go_num,V,G⟩
    case measure=>simp[intOf];omega
theorem Jrl{a b:List UInt8}(h:strOf a=strOf b):a=b:=by
 have:=congrArg ByteArray.toList h
 rwa [Jdq,Jdq] at this
theorem J12{r:Rc}(h:r.Fine):∃c t,rcB r=c::t/\c≠0:=by
 have y:=h.size;have z:=h.nm;unfold Jae at z;simp only[qb1,qbc] at z;have x:=z.1.1;have e:=Jac r.nm;refine⟨UInt8.ofNat r.nm.toList.length,_,rfl,fun hc=> ?_⟩;have:=congrArg UInt8.toNat hc;rw[UInt8.toNat_ofNat'] at this;have w:(0:UInt8).toNat=0:=rfl;omega
theorem J8y{a b:List Rc}(ha:∀r∈a,r.Fine)(hb:∀r∈b,r.Fine)(hl:a.length<b.length)(hb3:b.length<=3):Je0 a≠Je0 b:=by
 intro h;have la:=Jbp (l:=a) (fun r hr=>(ha r hr).len);have z:=congrArg (fun x=>x[64*a.length]?) h;unfold Je0 at z;rw[qb6 (by omega),la,Nat.sub_self] at z
 have z0:(zeros (208 - 64*a.length))[0]? =some 0:=by
  unfold zeros;rw[List.getElem?_replicate,qa0 (by omega)]
 rw[z0] at z
 have e:b.flatMap rcB=(b.take a.length).flatMap rcB++(rcB b[a.length]++(b.drop (a.length+1)).flatMap rcB):=by
  conv=>lhs;rw[<- qa8 a.length b]
  rw[qav,qbm hl,qau]
 have lt:((b.take a.length).flatMap rcB).length=64*a.length:=by
  rw[Jbp (fun r hr=>(hb r (qbi hr)).len),qao];omega
 obtain⟨c,t,w,y⟩:=J12 (hb _ (qan hl));rw[e,qas,qas,qb6 (by omega),lt,Nat.sub_self,w] at z;have z:some (0:UInt8)=some c:=z;exact y (qbr z).symm
section
variable {id tier shard:Nat} {l:List Rc} {p0:Nat} {M R:List UInt8} {f:Fd} {m:Nat} {ss:List ByteArray}
theorem Fd.bytes_len(f:Fd){R:List UInt8}(h:R.length=28):(f.bytes R).length=44:=by simp[Fd.bytes,h]
theorem Jco.pre(h:Jco id tier shard l p0 M R f m ss):(M++f.bytes R).length=48:=by
 rw[qad,h.hM,f.bytes_len h.hR]
theorem Jco.mid(h:Jco id tier shard l p0 M R f m ss){k:Nat}(hk:k<=(sgPt l p0).length):(strOf (M++(f.bytes R++Je0 (sgPt l p0)))).extract 48 (48+64*k)=strOf (((sgPt l p0).take k).flatMap rcB):=by
 have z:∀r∈sgPt l p0,r.Fine:=fun r hr=>h.hfine r (Jcn hr)
 have e:Je0 (sgPt l p0)=((sgPt l p0).take k).flatMap rcB++(((sgPt l p0).drop k).flatMap rcB++zeros (208 - ((sgPt l p0).flatMap rcB).length)):=by
  unfold Je0
  conv=>lhs;lhs;rw[<- qa8 k (sgPt l p0),qav]
  rw[qas]
 have lt:(((sgPt l p0).take k).flatMap rcB).length=64*k:=by
  rw[Jbp (fun r hr=>(z r (qbi hr)).len),qao];omega
 have:=Jc9 (M++f.bytes R) (((sgPt l p0).take k).flatMap rcB) (((sgPt l p0).drop k).flatMap rcB++zeros (208 - ((sgPt l p0).flatMap rcB).length));rw[h.pre,lt,<- e,qas] at this;exact this
theorem Jco.over(h:Jco id tier shard l p0 M R f m ss){k:Nat}(hk:(sgPt l p0).length<k)(hk3:k<=3):(strOf (M++(f.bytes R++Je0 (sgPt l p0)))).extract 48 (48+64*k)=strOf ((sgPt l p0).flatMap rcB++zeros (64*(k - (sgPt l p0).length))):=by
 have z:∀r∈sgPt l p0,r.Fine:=fun r hr=>h.hfine r (Jcn hr);have lf:((sgPt l p0).flatMap rcB).length=64*(sgPt l p0).length:=Jbp (fun r hr=>(z r hr).len);generalize hn:(sgPt l p0).length=n at*
 have e:Je0 (sgPt l p0)=((sgPt l p0).flatMap rcB++zeros (64*(k - n)))++zeros (208 - 64*k):=by
  unfold Je0;rw[lf,qas]
  congr 1
  unfold zeros;rw[List.replicate_append_replicate]
  congr 1
  omega
 have lt:((sgPt l p0).flatMap rcB++zeros (64*(k - n))).length=64*k:=by
  rw[qad,lf,Jbr];omega
 have:=Jc9 (M++f.bytes R) ((sgPt l p0).flatMap rcB++zeros (64*(k - n))) (zeros (208 - 64*k));rw[h.pre,lt,<- e,qas] at this;exact this
theorem Jco.again(h:Jco id tier shard l p0 M R f m ss){l':List Rc}(hl':∀r∈l',r.Fine)(hn:f.n<(sgPt l p0).length)(hm:sgN l'.length=m)(hd:f=⟨id,tier,shard,p0,m,f.n⟩)(hM:M=sgM)(hR:R=zeros 28): ¬ ∀q,q<m ->(sgL id tier shard l')[q]? =ss[q]? :=by
 intro o;have t:=o p0 h.hp0;rw[h.hat0,qah (by rw[Jcz,hm];exact h.hp0),Ju2 (by rw[hm];exact h.hp0),hm] at t;have z:=Jrl (qbr t);have y:∀n,(sgHd id tier shard p0 m n)=sgM++(⟨id,tier,shard,p0,m,n⟩:Fd).bytes (zeros 28):=fun n=>by simp[sgHd,Jqv,Fd.bytes]
 obtain⟨n',x⟩:=exE f.n;rw[<- x] at hn hd;subst hM hR;rw[hd] at z;have e1:sgBk id tier shard p0 m (sgPt l' p0)=sgHd id tier shard p0 m (sgPt l' p0).length++Je0 (sgPt l' p0):=rfl;rw[e1,<- qas,<- y] at z;have s:=List.append_inj z (by rw[Jff,Jff]);have p:=s.1;rw[y,y] at p;have w:=(List.append_inj p rfl).2;unfold Fd.bytes at w;simp only[List.append_cancel_left_eq] at w;have k:=(List.append_inj w (by simp)).1;have v:(sgPt l' p0).length<=3:=by rw[Jj0];omega
 have j:=congrArg leN k;have u:=h.pt h.hp0;rw[Jch (by omega),Jch (by omega)] at j;exact J8y (fun r hr=>hl' r (Jcn hr)) (fun r hr=>h.hfine r (Jcn hr)) (by omega) u.2 s.2
end
section
variable {id tier shard:Nat} {l:List Rc} {p0:Nat} {M R:List UInt8} {f:Fd} {m:Nat} {ss:List ByteArray}
def fdAt (id tier shard:Nat) (l:List Rc) (p0:Nat) (f:Fd) (m p:Nat):Fd:=if p=p0 then f else ⟨id,tier,shard,p,m,(sgPt l p).length⟩
def ptAt (l:List Rc) (p0 n p:Nat):List Rc:=if p=p0 then (sgPt l p).take n else sgPt l p
theorem J97(f:Fd):∀u∈f.cells,u.oneCell'=true:=by
 intro u z;simp[Fd.cells] at z;rcases z with rfl | rfl | rfl | rfl | rfl | rfl<;>rfl
theorem Kat{w:World}{A:Option Addr}{m:Nat}{G:Nat ->Fd}(h:Sl w A ((List.range m).flatMap fun p=>(G p).cells)){p:Nat}(hp:p<m):
  ∃b off,A=some ⟨b,off,none⟩/\b<w.heap.size/\J0k w b (off+p*6) (G p).id (G p).tier (G p).shard (G p).p (G p).N (G p).n:=by
 have z:=Jca (cs:=fun p=>(G p).cells) (k:=6) (fun _=>rfl) (List.range m);have x:((List.range m).flatMap fun p=>(G p).cells)≠[]:=fun e=>by rw[e,List.length_range] at z;simp at z;omega
 obtain⟨b,off,rfl,v,y⟩:=h.at_ x;have g:=fun q hq=>Jdh (cs:=fun p=>(G p).cells) (k:=6) (fun _=>rfl) (List.range m) p (by simpa using hp) q hq;simp only[List.getElem_range] at g;have c0:=y (p*6+0) _ (g 0 (by omega));have c1:=y (p*6+1) _ (g 1 (by omega));have c2:=y (p*6+2) _ (g 2 (by omega));have c3:=y (p*6+3) _ (g 3 (by omega));have c4:=y (p*6+4) _ (g 4 (by omega));have c5:=y (p*6+5) _ (g 5 (by omega));rw[<- qcd] at c0 c1 c2 c3 c4 c5;exact⟨b,off,rfl,v,⟨c0,c1,c2,c3,c4,c5⟩⟩
theorem Jco.reads(h:Jco id tier shard l p0 M R f m ss)(hg:f.good/\M=sgM/\R=zeros 28){p:Nat}(hp:p<ss.length)(W:World):
  Cs 281 #[.string ss[p]] W (RB W (.tuple #[hdV (fdAt id tier shard l p0 f m p).id (fdAt id tier shard l p0 f m p).tier (fdAt id tier shard l p0 f m p).shard (fdAt id tier shard l p0 f m p).p (fdAt id tier shard l p0 f m p).N (fdAt id tier shard l p0 f m p).n,(0:Int)])):=by
 by_cases e:p=p0
 · subst e
   have z:=h.hat0;rw[qah hp] at z;rw[qbr z,show fdAt id tier shard l p f m p=f from qa0 rfl];refine(h.read W).mono ?_;rintro e w' ⟨⟨_,_,_,rfl⟩ | ⟨y,_⟩,x⟩
   · exact⟨rfl,x⟩
   · exact absurd hg y
 · have z:=h.hat_ p (by rw[<- h.hlen];exact hp) e
   rw[qah hp] at z;rw[qbr z,show fdAt id tier shard l p0 f m p=⟨id,tier,shard,p,m,(sgPt l p).length⟩ from qay e];exact Ji6 id tier shard p m (sgPt l p) W (h.bk (by rw[<- h.hlen];exact hp))
theorem Jco.recs(h:Jco id tier shard l p0 M R f m ss)(hg:f.good/\M=sgM/\R=zeros 28){p:Nat}(hp:p<ss.length)(hc:p=p0 ->f=⟨id,tier,shard,p0,m,f.n⟩/\f.n<(sgPt l p0).length):
  fdAt id tier shard l p0 f m p=⟨id,tier,shard,p,m,(ptAt l p0 f.n p).length⟩/\ss[p].extract 48 (48+64*(ptAt l p0 f.n p).length)=strOf ((ptAt l p0 f.n p).flatMap rcB)/\ss[p].size=256/\1<=(ptAt l p0 f.n p).length/\(ptAt l p0 f.n p).length<=3:=by
 by_cases e:p=p0
 · subst e
   obtain⟨u,s⟩:=hc rfl;have z:=h.hat0;rw[qah hp] at z;have t:=h.pt h.hp0;have w:(ptAt l p f.n p).length=f.n:=by unfold ptAt;rw[qa0 rfl,qao];omega
   rw[qbr z,show fdAt id tier shard l p f m p=f from qa0 rfl,w];have v:=hg.1.n;refine⟨u,?_,?_,v.1,by omega⟩
   · rw[h.mid (by omega)]
     unfold ptAt;rw[qa0 rfl]
   · rw[Jaa,<- qas,qad,h.pre,h.body]
 · have y:p<m:=by rw[<- h.hlen];exact hp
   have z:=h.hat_ p y e;rw[qah hp] at z;have w:ptAt l p0 f.n p=sgPt l p:=qay e;have x:=h.bk y;rw[qbr z,show fdAt id tier shard l p0 f m p=⟨id,tier,shard,p,m,(sgPt l p).length⟩ from qay e,w];exact⟨rfl,J0l x.fine,by rw[Jaa,Jf9 x.fine x.len.2],x.len⟩
theorem J13(h:Jco id tier shard l p0 M R f m ss){n p:Nat}:∀r∈ptAt l p0 n p,r.Fine:=by
 intro r z;unfold ptAt at z;split at z
 · exact h.hfine r (Jcn (qbi z))
 · exact h.hfine r (Jcn z)
theorem J5q(l:List Rc)(p0 n p:Nat):List.Sublist (ptAt l p0 n p) (sgPt l p):=by
 unfold ptAt;split
 · exact List.take_sublist _ _
 · exact List.Sublist.refl _
theorem Jlr(l:List Rc)(p0 n:Nat):∀k,List.Sublist ((List.range k).flatMap (ptAt l p0 n)) ((List.range k).flatMap (sgPt l))
 | 0=>by simp
 | k+1=>by
   rw[qbw,qav,qav];refine List.Sublist.append (Jlr l p0 n k) ?_
   simpa using J5q l p0 n k
end
theorem J98(W:World)(a b c d e a' b' c' d' e':Int)(h: ¬ (a=a'/\b=b'/\c=c'/\d=d'/\e=e')):
  (binOp .neq 310 (.agg #[.int .u64 a,(b:Int),(c:Int),(d:Int),(e:Int)]) (.agg #[.int .u64 a',(b':Int),(c':Int),(d':Int),(e':Int)])).run Tryz.prog W= .ok true W:=by
 have key :((Op.equalIn 10000 310 (.agg #[.int .u64 a,(b:Int),(c:Int),(d:Int),(e:Int)]) (.agg #[.int .u64 a',(b':Int),(c':Int),(d':Int),(e':Int)])).run Tryz.prog W)= .ok (decide (a=a'/\b=b'/\c=c'/\d=d'/\e=e')) W:=by
  by_cases z:a=a'
  · by_cases y:b=b'
    · by_cases x:c=c'
      · by_cases w:d=d'
        · by_cases v:e=e'
          · exact absurd ⟨z,y,x,w,v⟩ h
          · simp[go_sem,z,y,x,w,v]
        · simp[go_sem,z,y,x,w]
      · simp[go_sem,z,y,x]
    · simp[go_sem,z,y]
  · simp[go_sem,z]
 rw[run_neq_struct,key,qae h];rfl
theorem Jxh{a b:ByteArray}(h:a.toList=b.toList):a=b:=by
 have:=congrArg strOf h
 rwa [Jif,Jif] at this
def ptN (l:List Rc) (p0 n p:Nat):Nat:=((List.range p).flatMap (ptAt l p0 n)).length
theorem Jtg{id tier shard:Nat}{l:List Rc}{p0:Nat}{M R:List UInt8}{f:Fd}{m d:Nat}{ss:List ByteArray}{B:Option Addr}(w:World)(h:Jco id tier shard l p0 M R f m ss)(hB:Strs w B m ss)(hg:f.good/\M=sgM/\R=zeros 28):
  Cs 214 #[.int .u64 (id:Int),(tier:Int),(shard:Int),.slice B m d] w (RB w (.tuple #[(),(6:Int)])):=by
 have c:=zI h;have H:=zI hg;have Hl:=zI hB;have KS:=h.len1.2;have KT:=h.hp0;have Kw:Hid (∀p,fdAt id tier shard l p0 f m p=fdAt id tier shard l p0 f m p):=zI (fun _=>rfl);clear h hB hg Kw;go_enter Tryz.func214,Tryz.ntmps214;go_wp2_with fail
 go_loopw [11,26] (fun v i wr=>∃k:Nat,k<=m/\i= .int .i64 (k:Int)/\wr.ownsRow w.heap.size 389 6 v k ((List.range k).flatMap fun p=>(fdAt id tier shard l p0 f m p).cells)/\Below w.heap.size w wr) (fun _ i _=>m - (intOf i).toNat)
 case atStart=>exact⟨0,qaq _,rfl,qaz _ _ _ _,qaa _ _⟩
 case round =>
  obtain⟨k,hk,rfl,z,Z⟩:=hrel;by_cases P:k<m
  · have K:k<ss.length:=by rw[c.out.hlen];exact P
    obtain⟨b,off,rfl,Hm,y⟩:=(Hl.out.below Z).get K;have HR:=zI (c.out.reads H.out K wr)
    have Hn:=zI (show((List.range k).flatMap fun p=>(fdAt id tier shard l p0 f m p).cells)++(fdAt id tier shard l p0 f m k).cells=(List.range (k+1)).flatMap fun p=>(fdAt id tier shard l p0 f m p).cells from by
     rw[qbw,qav];simp)
    have E:=zI (J97 (fdAt id tier shard l p0 f m k));have HK:=zI (show k+1<=1000000 from by omega);generalize fdAt id tier shard l p0 f m k=g at*;obtain⟨f1,f2,f3,f4,f5,f6⟩:=g;unfold Fd.cells at Hn E;dsimp only at HR Hn E;generalize ss[k]'K=S at*;have HO:=zI z;have HB:=zI Z;clear z Z;go_wp2_with fail
    refine HR.out.mono ?_;rintro e w2 ⟨rfl,o⟩;have O:=o.alloc o.size (.cells #[.int .u64 (f1:Int),(f2:Int),(f3:Int),(f4:Int),(f5:Int),(f6:Int)] 389);have Ho:=O.alloc O.size (.cells #[.int .u64 (f1:Int),(f2:Int),(f3:Int),(f4:Int),(f5:Int),(f6:Int)] 389);have Kx:=zI (Sl.new (w2.alloc (.cells #[.int .u64 (f1:Int),(f2:Int),(f3:Int),(f4:Int),(f5:Int),(f6:Int)] 389)) 389 (w2.heap.size+1) [.int .u64 (f1:Int),(f2:Int),(f3:Int),(f4:Int),(f5:Int),(f6:Int)] #[.int .u64 (f1:Int),(f2:Int),(f3:Int),(f4:Int),(f5:Int),(f6:Int)] (by simp) rfl);have Kf:=zI (Jaf HO.out Ho);have Hp:=zI (HB.out.trans (Ho.mono HB.out.size));clear o O Ho;go_wp2_with (at_builtin;refine Jsa rfl _ _ rfl Kf.out rfl (some ⟨w2.heap.size+1,0,none⟩) 1 1 _ rfl rfl Kx.out E.out HK.out Hp.out.size ?_;intro A' c' w5 Hf Hq)
    have Hr:=Jbd Kf.out Hq Hp.out Hp.out.size;rw[Hn.out] at Hf;go_roundw
    case rel=>exact⟨k+1,by omega,by go_num,Hf,Hr⟩
    case measure=>simp[intOf];omega
  · have Ky : k =m:=by omega
    subst Ky;obtain⟨wo,Kg⟩:=exE wr;rw[<- Kg] at z Z ⊢;obtain⟨Ah,ch,rfl,G⟩:=Jao z;have Kz:=zI z;have a:=zI Z;clear Kg z Z G;go_wp2_with fail
    go_loopw [10,45] (fun v i wr=>∃p:Nat,p<=k/\i= .int .i64 (p:Int)/\(p0<p ->f=⟨id,tier,shard,p0,k,f.n⟩/\f.n<(sgPt l p0).length)/\wr.ownsRow wo.heap.size 142 7 v (ptN l p0 f.n p) (((List.range p).flatMap (ptAt l p0 f.n)).flatMap Rc.cells)/\Below wo.heap.size wo wr) (fun _ i _=>k - (intOf i).toNat)
    case atStart=>exact⟨0,qaq _,rfl,fun hh=>absurd hh (Nat.not_lt_zero _),qaz _ _ _ _,qaa _ _⟩
    case round =>
     obtain⟨p,hp,rfl,t,z,Z⟩:=hrel;by_cases P:p<k
     · have K :p<ss.length:=by rw[c.out.hlen];exact P
       have Hg:=a.out.trans (Z.mono a.out.size);obtain⟨b,off,rfl,Hm,y⟩:=(Hl.out.below Hg).get K;obtain⟨_,_,e1,G⟩:=Jao (Jaf Kz.out Z);cases e1
       obtain⟨bh,oh,rfl,KU,HC⟩:=Kat G P;by_cases N:p=p0 ->f=⟨id,tier,shard,p0,k,f.n⟩/\f.n<(sgPt l p0).length
       · obtain⟨D,hx,KC,KD,KE⟩:=c.out.recs H.out K N
         rw[D] at HC;dsimp only at HC
         have KG:=zI (show p0<p+1 ->f=⟨id,tier,shard,p0,k,f.n⟩/\f.n<(sgPt l p0).length from fun hh=>by
          rcases Nat.lt_or_ge p0 p with F | F
          · exact t F
          · exact N (by omega))
         have Hh:=zI (fun W=>Jqy (ptAt l p0 f.n p) W (J13 c.out) (by omega))
         have KH:=zI (show((List.range p).flatMap (ptAt l p0 f.n)).flatMap Rc.cells++(ptAt l p0 f.n p).flatMap Rc.cells=((List.range (p+1)).flatMap (ptAt l p0 f.n)).flatMap Rc.cells from by
          rw[<- qav,qbw,qav];simp)
         have Kh:=zI (show ptN l p0 f.n p+(ptAt l p0 f.n p).length=ptN l p0 f.n (p+1) from by
          unfold ptN;rw[<- qad,qbw,qav];simp)
         have E:=zI (show ∀u∈(ptAt l p0 f.n p).flatMap Rc.cells,u.oneCell'=true from fun u hu=>by
          obtain⟨r,_,hr⟩:=qcs.1 hu;exact Ju0 r u hr)
         have Ki:=zI (Jli (ptAt l p0 f.n p))
         have HK:=zI (show ptN l p0 f.n p+(ptAt l p0 f.n p).length<=1000000 from by
          unfold ptN;have F:=(Jlr l p0 f.n p).length_le;have h2:((List.range p).flatMap (sgPt l)).length<=l.length:=by rw[Jsz,qao];omega
          have h3:=c.out.hfew;omega)
         obtain⟨n,Kj⟩:=exE ((ptAt l p0 f.n p).length);rw[<- Kj] at HC hx KD KE Hh Kh Ki HK;generalize strOf ((ptAt l p0 f.n p).flatMap rcB)=RB at*;generalize ss[p]'K=S at*;obtain⟨s0,s1,s2,s3,s4,s5⟩:=HC;have HO:=zI z;have HB:=zI Z;have Hs:=zI hx;clear z Z Hg G Kj hx D N t;obtain⟨w1,Y⟩:=exE (wr.alloc (.cells #[.int .u64 (id:Int),(tier:Int),(shard:Int),(p:Int),(k:Int),(n:Int)] 389));have V:=(qaa wr.heap.size wr).alloc (qab _) (.cells #[.int .u64 (id:Int),(tier:Int),(shard:Int),(p:Int),(k:Int),(n:Int)] 389);have x:=Bx.new wr 389 #[.int .u64 (id:Int),(tier:Int),(shard:Int),(p:Int),(k:Int),(n:Int)];rw[<- Y] at V x;have Hi:=zI Y;have t0:=x.at_ 0 rfl;have t1:=x.at_ 1 rfl;have t2:=x.at_ 2 rfl;have t3:=x.at_ 3 rfl;have t4:=x.at_ 4 rfl;have t5:=x.at_ 5 rfl;have Ht:w1.cell? ⟨b,off+p,none⟩=some (.string S):=(V.cell (p:=⟨b,off+p,none⟩) Hm).trans y;clear Y;go_upto_region 14 with fail
         rw[<- Hi.out];clear s0 s1 s2 s3 s4 s5 y;go_upto_region 16 with fail
         have Hu:S.extract 48 (48+n*64)=RB:=by rw[Nat.mul_comm n 64];exact Hs.out
         have C:(0:Int)<=(p:Int):=(by omega);have Hv:(p:Int)<(k:Int):=(by omega);have Hw:(48:Int)<=48+(n:Int)*64:=(by omega);have Hx:(48:Int)+(n:Int)*64<=256:=(by omega);have Hy:IntKind.i64.wrap ((n:Int)*64)=(n:Int)*64:=qbd _ (by omega);have Hz:IntKind.i64.wrap (48+(n:Int)*64)=48+(n:Int)*64:=qbd _ (by omega);have H0:((48:Int)+(n:Int)*64).toNat=48+n*64:=(by omega);have A:=(qaa w1.heap.size w1).drew;have hJ:w1.drew.cell? ⟨b,off+p,none⟩=some (.string S):=Ht;have Ha:w1.drew.cell? ⟨wr.heap.size,5,none⟩=some (.int .i64 (n:Int)):=t5
         go_region_held3 (fun w'=>w'.cell? ⟨b,off+p,none⟩=some (.string S)/\w'.cell? ⟨wr.heap.size,5,none⟩=some (.int .i64 (n:Int))/\Below w1.heap.size w1 w')
          (first
            | exact⟨hJ,Ha,A⟩
            | (go_split_ands;exact⟨(o.cell (p:=⟨b,off+p,none⟩) (by have:=qba _ _ (by assumption:World.cell? _ ⟨b,off+p,none⟩=some (.string S));simpa using this)).trans (by assumption),(o.cell (p:=⟨wr.heap.size,5,none⟩) (by have:=qba _ _ (by assumption:World.cell? _ ⟨wr.heap.size,5,none⟩=some (.int .i64 (n:Int)));simpa using this)).trans (by assumption),Below.trans (by assumption) (Below.mono o (Below.size (by assumption)))⟩))
          ((go_at_call 282;refine(Hh.out _).mono ?_;rintro e w2 ⟨v2,rfl,Kk,o⟩))
         obtain⟨A2,c2,rfl,Kl⟩:=Jao Kk;have hS:Below w1.heap.size w1 w2:=by go_split_ands;assumption
         have O:=V.trans (hS.mono V.size);have Km:=zI (Jaf HO.out O);have L:=zI (HB.out.trans (O.mono HB.out.size));have KI:=zI Kl;clear Hy Hz H0 Hu C Hv Hw Hx A hJ Ha hS O Kl Kk;go_wp2_with (at_builtin;refine Jt1 rfl _ _ rfl Km.out rfl A2 n c2 _ rfl Ki.out KI.out E.out HK.out L.out.size ?_;intro A' c' w5 Hf Hq)
         have Hr:=Jbd Km.out Hq L.out L.out.size;go_roundw
         case rel=>exact⟨p+1,by omega,by go_num,KG.out,by rw[<- Kh.out,<- KH.out];exact Hf,Hr⟩
         case measure=>simp[intOf];omega
       · have Kn:p=p0:=Classical.byContradiction fun hh=>N (fun e=>absurd e hh)
         have J: ¬ (f=⟨id,tier,shard,p0,k,f.n⟩/\f.n<(sgPt l p0).length):=fun hh=>N (fun _=>hh);subst Kn;rw[show fdAt id tier shard l p f k p=f from qa0 rfl] at HC
         have U:ss[p]=strOf (M++(f.bytes R++Je0 (sgPt l p))):=by
          have h0:=c.out.hat0;rw[qah K] at h0;exact qbr h0
         obtain⟨f1,f2,f3,f4,f5,f6⟩:=f;have HB:=zI Z;obtain⟨s0,s1,s2,s3,s4,s5⟩:=HC;dsimp only at s0 s1 s2 s3 s4 s5 J;obtain⟨w1,Y⟩:=exE (wr.alloc (.cells #[.int .u64 (f1:Int),(f2:Int),(f3:Int),(f4:Int),(f5:Int),(f6:Int)] 389));have V:=(qaa wr.heap.size wr).alloc (qab _) (.cells #[.int .u64 (f1:Int),(f2:Int),(f3:Int),(f4:Int),(f5:Int),(f6:Int)] 389);have x:=Bx.new wr 389 #[.int .u64 (f1:Int),(f2:Int),(f3:Int),(f4:Int),(f5:Int),(f6:Int)];rw[<- Y] at V x;have Hi:=zI Y;have H9:=zI V;have t0:=x.at_ 0 rfl;have t1:=x.at_ 1 rfl;have t2:=x.at_ 2 rfl;have t3:=x.at_ 3 rfl;have t4:=x.at_ 4 rfl;have t5:=x.at_ 5 rfl;by_cases Hb:f1=id/\f2=tier/\f3=shard/\f4=p/\f5=k
         · obtain⟨rfl,rfl,rfl,rfl,rfl⟩:=Hb
           have KV:=zI U
           have Hc:(sgPt l f4).length<f6:=by
            have F:=c.out.hne;have h2:=H.out;rcases Nat.lt_trichotomy f6 (sgPt l f4).length with h3 | h3 | h3
            · exact absurd ⟨rfl,h3⟩ J
            · exact absurd ⟨h2.2.1,h2.2.2,by rw[h3]⟩ F
            · exact h3
           have Ko:f6<=3:=H.out.1.n.2;have hx:=c.out.over Hc Ko;rw[<- U] at hx;have Hh:=zI (fun W=>Jxd (sgPt l f4) (f6 - (sgPt l f4).length) W (fun r hr=>c.out.hfine r (Jcn hr)) (by omega) (by omega));have KC:(ss[f4]).size=256:=(by rw[U,Jaa,<- qas,qad,c.out.pre,c.out.body]);generalize strOf ((sgPt l f4).flatMap rcB++zeros (64*(f6 - (sgPt l f4).length)))=RB at*;generalize ss[f4]'K=S at*;have Hs:=zI hx;have Ht:w1.cell? ⟨b,off+f4,none⟩=some (.string S):=(V.cell (p:=⟨b,off+f4,none⟩) Hm).trans y;clear z Z Hg G hx Y N J U Hc t;go_upto_region 14 with fail
           rw[<- Hi.out];clear s0 s1 s2 s3 s4 s5 y;go_upto_region 16 with fail
           have Hu:S.extract 48 (48+f6*64)=RB:=by rw[Nat.mul_comm f6 64];exact Hs.out
           have C:(0:Int)<=(f4:Int):=(by omega);have Hv:(f4:Int)<(f5:Int):=(by omega);have Hw:(48:Int)<=48+(f6:Int)*64:=(by omega);have Hx:(48:Int)+(f6:Int)*64<=256:=(by omega);have Hy:IntKind.i64.wrap ((f6:Int)*64)=(f6:Int)*64:=qbd _ (by omega);have Hz:IntKind.i64.wrap (48+(f6:Int)*64)=48+(f6:Int)*64:=qbd _ (by omega);have H0:((48:Int)+(f6:Int)*64).toNat=48+f6*64:=(by omega);have A:=(qaa w1.heap.size w1).drew;have hJ:w1.drew.cell? ⟨b,off+f4,none⟩=some (.string S):=Ht;have Ha:w1.drew.cell? ⟨wr.heap.size,5,none⟩=some (.int .i64 (f6:Int)):=t5
           go_region_held3 (fun w'=>w'.cell? ⟨b,off+f4,none⟩=some (.string S)/\w'.cell? ⟨wr.heap.size,5,none⟩=some (.int .i64 (f6:Int))/\Below w1.heap.size w1 w')
            (first
              | exact⟨hJ,Ha,A⟩
              | (go_split_ands;exact⟨(o.cell (p:=⟨b,off+f4,none⟩) (by have:=qba _ _ (by assumption:World.cell? _ ⟨b,off+f4,none⟩=some (.string S));simpa using this)).trans (by assumption),(o.cell (p:=⟨wr.heap.size,5,none⟩) (by have:=qba _ _ (by assumption:World.cell? _ ⟨wr.heap.size,5,none⟩=some (.int .i64 (f6:Int)));simpa using this)).trans (by assumption),Below.trans (by assumption) (Below.mono o (Below.size (by assumption)))⟩))
            ((go_at_call 282;refine(Hh.out _).mono ?_;rintro e w2 ⟨rfl,o⟩))
           have hS:Below w1.heap.size w1 w2:=by go_split_ands;assumption
           have L:=zI (a.out.trans ((HB.out.trans ((H9.out.trans (hS.mono H9.out.size)).mono HB.out.size)).mono a.out.size));clear Hy Hz H0 Hu C Hv Hw Hx A hJ Ha hS;go_wp2_with fail
           go_ret2;exact⟨rfl,L.out⟩
         · have hq:=fun W=>J98 W f1 f2 f3 f4 f5 id tier shard p k (by omega)
           have L:=zI (a.out.trans ((HB.out.trans (H9.out.mono HB.out.size)).mono a.out.size));clear z Z Hg G Y N J Hb U t;go_upto_region 14 with fail
           rw[<- Hi.out];clear s0 s1 s2 s3 s4 s5 y;go_wp2_with fail
           go_ret2;exact⟨rfl,L.out⟩
     · have Kn : p=k:=by omega
       have KJ:=t (by omega);obtain⟨D,Hd⟩:=KJ
       have T:List.Sublist ((List.range p).flatMap (ptAt l p0 f.n)) l:=by
        have F:=Jlr l p0 f.n p;rw[Jsz] at F;exact F.trans (List.take_sublist _ _)
       obtain⟨l2,Hj⟩:=exE ((List.range p).flatMap (ptAt l p0 f.n));rw[<- Hj] at T;rw[show ptN l p0 f.n p=l2.length from by rw[Hj];rfl,<- Hj] at z;have s:∀r∈l2,r.Fine:=fun r hr=>c.out.hfine r (T.subset hr);have KK:=T.length_le;have KR:=c.out.hfew;obtain⟨Ao,co,rfl,Kp⟩:=Jao z;have Kq:=a.out.trans (Z.mono a.out.size);have Ka:=zI (Jlj id tier shard Ao l2.length co l2 wr c.out.hid.1 c.out.hid.2 c.out.htier c.out.hshard (Jm1 Kp s (by omega)) s (c.out.hord.sublist T) (by omega) (Jop z));have Kb:=zI (fun hm=>c.out.again s Hd hm D H.out.2.1 H.out.2.2);have Kr:=zI Z;have KL:=zI (Hl.out.below Kq);clear z Z Kp Kq Hj T s D Hd t;obtain⟨L2,Kc⟩:=exE l2.length;rw[<- Kc] at Ka Kb ⊢;obtain⟨N2,Kd⟩:=exE (sgN L2);rw[<- Kd] at Ka Kb;have KM:=zI (show(sgL id tier shard l2).length=N2 from by rw[Jcz,Kd,Kc]);clear Kc Kd;go_wp2_with fail
       refine Ka.out.mono ?_;rintro e w6 ⟨v6,rfl,Ks,Ke⟩;obtain⟨A6,c6,rfl,Kt⟩:=Jao Ks;have KN:=zI Kt;have Ku:=zI (a.out.trans ((Kr.out.trans (Ke.mono Kr.out.size)).mono a.out.size));have KO:=zI (KL.out.below Ke);have d1:((k:Int)==0)=false:=by rw[qat];omega
       clear Ks Ke Kt;by_cases hN:N2=k
       · have Kv :=zI (Kb.out hN)
         subst hN;go_wp2_with fail
         go_loop [101] (fun i=>∃q:Nat,q<=N2/\i= .int .i64 (q:Int)/\∀j,j<q ->(sgL id tier shard l2)[j]? =ss[j]?) (fun i=>N2 - (intOf i).toNat)
         case atStart=>exact⟨0,qaq _,rfl,fun j hj=>absurd hj (Nat.not_lt_zero _)⟩
         case round=>
          obtain⟨q,hq,rfl,He⟩:=hrel;by_cases P:q<N2
          · have K:q<ss.length:=by rw[c.out.hlen];exact P
            have K2:q<(sgL id tier shard l2).length:=by rw[KM.out];exact P
            obtain⟨b,off,rfl,_,y⟩:=KO.out.get K;obtain⟨b',off',rfl,_,I⟩:=KN.out.get (j:=q) (by simpa using K2);simp only[qbq] at I;have KP:=zI He;clear He;by_cases Hk:(sgL id tier shard l2)[q]=ss[q]
            · have HQ:=zI (show ∀j,j<q+1 ->(sgL id tier shard l2)[j]? =ss[j]? from fun j hj=>by
               rcases Nat.lt_or_ge j q with F | F
               · exact KP.out j F
               · have e:j=q:=by omega
                 subst e;rw[qah K2,qah K,Hk])
              rw[Hk] at I;generalize ss[q]'K=S at*;go_wp2_with fail
              go_round
              case rel=>exact⟨q+1,by omega,by go_num,HQ.out⟩
              case measure=>simp[intOf];omega
            · have KW:(((sgL id tier shard l2)[q]).toList==(ss[q]).toList)=false:=by
               rw[qat];intro F;exact Hk (by apply Jxh F)
              generalize (sgL id tier shard l2)[q]'K2=S2 at*;generalize ss[q]'K=S at*;clear Hk;go_wp2_with fail
              go_ret2;exact⟨rfl,Ku.out⟩
          · have KQ:q=N2:=by omega
            subst KQ;exact absurd He Kv.out
       · have d2:((N2:Int)==(k:Int))=false:=by rw[qat];omega
         go_wp2_with fail
         go_ret2;exact⟨rfl,Ku.out⟩
