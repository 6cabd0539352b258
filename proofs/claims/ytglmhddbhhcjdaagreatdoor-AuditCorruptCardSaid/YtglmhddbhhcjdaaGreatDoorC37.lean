/- Laws that the walk of the last text wants. -/
import Derived.Test.YtglmhddbhhcjdaaGreatDoorC28
set_option maxRecDepth 100000
set_option linter.unusedSimpArgs false
set_option maxHeartbeats 4000000
namespace Go.Proofs.YtglmhddbhhcjdaaGreatDoor
open Go.RowKit
def bksL (f:Int ->Option ByteArray) (zs:List Int):List Value:=zs.map fun z=>Value.string (Jav f z)
theorem Jrc(f:Int ->Option ByteArray)(zs:List Int)(z:Int):bksL f (zs++[z])=bksL f zs++[.string (Jav f z)]:=by simp[bksL]
theorem Jxa{F:Nat ->Prop}{g N n0:Nat}{f fl:Int ->Option ByteArray}{ws:List (Int×ByteArray)}(w:World)(h:DkAt w F g N n0 f fl ws)(A:Option Addr)(n c:Nat)(zs:List Int)(hz:Ints w .i64 A n zs)(hin:∀z∈zs,0<=z/\z<(N:Int))(hn:n<=900000):
  Cs 212 #[g,.slice A n c] w fun e w'=>∃v,e= .returned (.tuple #[v,(0:Int)])/\w'.ownsRow w.heap.size 9 1 v n (bksL f zs)/\Below w.heap.size w w':=by
 have R:=zI (fun W (hW:Below w.heap.size w W) j (hj:j<N)=>Jjv (h.below hW) j hj);have P:=zI hz;have p:=zI hz.len;have i:=zI hin;clear h hz hin;go_enter Tryz.func212,Tryz.ntmps212;go_wp2_with fail
 go_loopw [6,13] (fun v j wr=>∃q:Nat,q<=n/\j= .int .i64 (q:Int)/\wr.ownsRow w.heap.size 9 1 v q (bksL f (zs.take q))/\Below w.heap.size w wr) (fun _ j _=>n - (intOf j).toNat)
 case atStart=>exact⟨0,qaq _,rfl,qaz _ _ _ _,qaa _ _⟩
 case round=>
  obtain⟨q,D,rfl,y,r⟩:=hrel;by_cases d:q<n
  · have K:q<zs.length:=by rw[p.out];exact d
    obtain⟨b,off,rfl,O,M⟩:=(P.out.below r).get K;have L:=zI (show bksL f (zs.take (q+1))=bksL f (zs.take q)++[.string (Jav f zs[q])] from by rw[qam K,Jrc]);have J:=i.out _ (qan K);generalize zs[q]'K=z at*;obtain⟨k,rfl⟩:∃k:Nat,z=(k:Int):=⟨z.toNat,by omega⟩;have I:=zI (R.out _ r k (by omega));have a:=zI y;have l:=zI r;have H:=zI (show q+1<=1000000 from by omega);generalize Jav f (k:Int)=Z at*;clear y r;go_wp2_with fail
    refine I.out.mono ?_;rintro e w2 ⟨rfl,x⟩;have t:=x.alloc x.size (.cells #[Z] 9);have Y:=zI (Sl.new w2 9 w2.heap.size [Z] #[Z] rfl rfl);have V:=zI (show ∀u∈([Z]:List Value),u.oneCell'=true from by intro u G;rw[qa1.1 G];rfl);have o:=zI (Jaf a.out t);have s:=zI (l.out.trans (t.mono l.out.size));clear x t;go_wp2_with (at_builtin;refine Jkv rfl _ _ rfl o.out rfl (some ⟨w2.heap.size,0,none⟩) 1 1 [Z] rfl rfl Y.out V.out H.out s.out.size ?_;intro A' c' w5 m U)
    have T:=Jbd o.out U s.out s.out.size;rw[<- L.out] at m;go_roundw
    case rel=>exact⟨q+1,by omega,by go_num,m,T⟩
    case measure=>simp[intOf];omega
  · have S:q=n:=by omega
    have E:=zI (show zs.take q=zs from qap (by rw[p.out];omega));rw[E.out,S] at y;have a:=zI y;have l:=zI r;clear y r;go_wp2_with fail
    go_ret2;exact⟨_,rfl,a.out,l.out⟩
theorem J1r(a:Ag)(w:World)(hv:Jbx a=false)(ho:a.Ok):
  Cs 388 #[(strOf (agB a))] w (RB w (.tuple #[Ag.zero.val,(6:Int)])):=by
 have K:=zI (fun W=>Jbi a W);have J:=zI hv;obtain⟨lo,s⟩:=exE a.lo.toNat;have i:=zI (show a.lo=(lo:Int) from by rw[s,J0g ho]);have h:=zI (show lo<18446744073709551616 from by have:=ho.lo;omega);have f:=zI s;have u:=zI ho;have I:(strOf (agB a)).size=40:=by rw[Jaa,Jsy]
 have r:=(qaa w.heap.size w).alloc (qab _) (.cells #[(0:Int),(0:Int),.int .u64 0,(0:Int),(0:Int)] 140);have q:=Bx.new w 140 #[(0:Int),(0:Int),.int .u64 0,(0:Int),(0:Int)];obtain⟨w1,p⟩:=exE (w.alloc (.cells #[(0:Int),(0:Int),.int .u64 0,(0:Int),(0:Int)] 140));rw[<- p] at r q;have d:=zI p;have b:=zI q;have m:=zI r;have H:=zI (ReadW.from_ w1 (qaa _ w1) (agB a) (by simp));generalize strOf (agB a)=S at*;clear hv ho s p r q;go_enter Tryz.func388,Tryz.ntmps388;go_upto_region 1 with fail
 rw[<- d.out];go_wp2_with fail
 refine H.out.mono ?_;rintro e w2 ⟨g,rfl,y⟩;have G:=zI (show ReadW w1 w2 g (le 8 (u64 a.c)++(le 8 (u64 a.hi)++(le 8 lo++(le 8 (u64 a.mn)++(le 8 (u64 a.mx)++[]))))) from by rw[f.out];simpa[agB] using y);clear y;have Z:=zI (ReadW.int a.c _ G.out u.out.c (by simp));go_wp2_with fail
 refine Z.out.mono ?_;rintro e w3 ⟨rfl,y⟩;have Y:=zI y;clear y;have V:=zI (ReadW.int a.hi _ Y.out u.out.hi (by simp));go_wp2_with fail
 refine V.out.mono ?_;rintro e w4 ⟨rfl,y⟩;have U:=zI y;clear y;have T:=zI (ReadW.word lo _ U.out h.out (by simp));go_wp2_with fail
 refine T.out.mono ?_;rintro e w5 ⟨rfl,y⟩;have R:=zI y;clear y;have P:=zI (ReadW.int a.mn _ R.out u.out.mn (by simp));go_wp2_with fail
 refine P.out.mono ?_;rintro e w6 ⟨rfl,y⟩;have O:=zI y;clear y;have N:=zI (ReadW.int a.mx _ O.out u.out.mx (by simp));go_wp2_with fail
 refine N.out.mono ?_;rintro e w7 ⟨rfl,y⟩;have M:=zI (b.out.below y.below);have l:=zI (m.out.trans (y.below.mono m.out.size));clear y;rw[<- i.out];go_wp2_with fail
 refine(K.out _).mono ?_;rintro e w8 ⟨rfl,k⟩;rw[J.out];have o:=(qaa w7.heap.size w7).alloc (qab _) (.cells #[(a.c:Int),(a.hi:Int),.int .u64 a.lo,(a.mn:Int),(a.mx:Int)] 140);have t:=o.alloc o.size (.cells #[(a.c:Int),(a.hi:Int),.int .u64 a.lo,(a.mn:Int),(a.mx:Int)] 140);rw[<- k] at t;have z:=zI (M.out.below t);have L:=zI (l.out.trans (t.mono l.out.size));have r0:=z.out.at_ 0 rfl;have r1:=z.out.at_ 1 rfl;have r2:=z.out.at_ 2 rfl;have r3:=z.out.at_ 3 rfl;have r4:=z.out.at_ 4 rfl;have f0:=z.out.free 0;have f1:=z.out.free 1;have f2:=z.out.free 2;have f3:=z.out.free 3;have f4:=z.out.free 4;clear o t k;go_wp2_with fail
 obtain⟨w9,n⟩:=exE (putC w8 w.heap.size 0 [(0:Int),(0:Int),.int .u64 0,(0:Int),(0:Int)]);have x:=Jaw z.out [(0:Int),(0:Int),.int .u64 0,(0:Int),(0:Int)] rfl;have j:=Jaj (B:=w.heap.size) [(0:Int),(0:Int),.int .u64 0,(0:Int),(0:Int)] (qab _) w8 0;rw[<- n] at x j;simp only[putC,qa7,Nat.reduceAdd] at n;rw[<- n];have q0:=x.at_ 0 rfl;have q1:=x.at_ 1 rfl;have q2:=x.at_ 2 rfl;have q3:=x.at_ 3 rfl;have q4:=x.at_ 4 rfl;exact qa6 (v:= .tuple #[Ag.zero.val,(6:Int)]) (by simp[results,Tryz.results388,go_sem,q0,q1,q2,q3,q4,Ag.zero]) rfl ⟨rfl,L.out.trans j⟩
theorem Jxb(r:Rc)(w:World)(hn:Jae r.nm.toList=false)(hs:r.nm.size<=maxLen):Cs 335 #[r.val] w fun e w'=>e= .returned false/\Below w.heap.size w w':=by
 have z:=zI (fun (W:World) (g:Nat) (hg:W.cell? ⟨g,0,none⟩=some (.string r.nm))=>Jbj (some ⟨g,0,none⟩) 1 1 [r.nm] W (by decide) rfl (by simpa using hs) (fun _=>⟨g,0,rfl,one_cell hg⟩));rw[show([r.nm].all fun s=>Jae s.toList)=false from by simp[hn]] at z;clear hn hs;go_enter Tryz.func335,Tryz.ntmps335;go_wp2_with fail
 refine(z.out _ _ (by simp[go_sem])).mono ?_;rintro e w1 ⟨rfl,y⟩;subst y;go_wp2_with fail
 go_ret;exact⟨rfl,by repeat (first | exact qaa _ _ | refine Below.drew ?_ | refine qc8 ?_ (by simp;try omega) _)⟩
theorem Jxc(r:Rc)(w:World)(hn:Jae r.nm.toList=false)(hs:r.nm.size<=maxLen):Cs 389 #[r.val] w (RB w (.tuple #[ByteArray.empty,(1:Int)])):=by
 have z:=(qaa w.heap.size w).alloc (qab _) (.cells #[r.nm,(r.st:Int),(r.ag.c:Int),(r.ag.hi:Int),.int .u64 r.ag.lo,(r.ag.mn:Int),(r.ag.mx:Int)] 142);have u:=zI (fun W=>Jxb r W hn hs);have y:=zI z;clear z hn hs;go_enter Tryz.func389,Tryz.ntmps389;go_wp2_with fail
 refine(u.out _).mono ?_;rintro e w1 ⟨rfl,x⟩;have v:=zI (y.out.trans (x.mono y.out.size));clear x;go_wp2_with fail
 go_ret2;exact⟨rfl,v.out⟩
theorem Jta(r:Rc)(w:World)(hlen:r.nm.toList.length<=15)(hst:0<=r.st/\r.st<=1099511627776)(hag:r.ag.Ok)(hv:Jbx r.ag=false)(hn:Jae r.nm.toList=false):Cs 334 #[(strOf (rcB r))] w (RB w (.tuple #[(⟨⟨#[]⟩,0,Ag.zero⟩:Rc).val,(6:Int)])):=by
 have HP:=zI (fun W=>Jxc ⟨r.nm,r.st,Ag.zero⟩ W hn (by have e:=Jac r.nm;unfold maxLen;show r.nm.size<=_;omega));have HA:=zI (fun W=>show Cs 388 #[(strOf (agB r.ag))] W (RB W (.tuple #[.agg #[(0:Int),(0:Int),.int .u64 0,(0:Int),(0:Int)],(6:Int)])) from J1r r.ag W hv hag);have N:=zI hlen;have M:=zI (Ji4 hlen);have L:=zI hst;have K:=zI (Jif r.nm);have m:=(qaa w.heap.size w).alloc (qab _) (.cells #[.string ⟨#[]⟩,(0:Int),(0:Int),(0:Int),.int .u64 0,(0:Int),(0:Int)] 142);have l:=Bx.new w 142 #[.string ⟨#[]⟩,(0:Int),(0:Int),(0:Int),.int .u64 0,(0:Int),(0:Int)];obtain⟨w1,k⟩:=exE (w.alloc (.cells #[.string ⟨#[]⟩,(0:Int),(0:Int),(0:Int),.int .u64 0,(0:Int),(0:Int)] 142));rw[<- k] at m l;have J:=zI k;have d:=zI l;have j:=zI m;clear k m l;have HF:=zI (ReadW.from_ w1 (qaa _ w1) (rcB r) (by rw[M.out];omega));obtain⟨S,hS⟩:=exE (strOf (rcB r));rw[<- hS] at HF ⊢;clear hlen hst hag hv hn hS;go_enter Tryz.func334,Tryz.ntmps334;go_upto_region 1 with fail
 rw[<- J.out];go_wp2_with fail
 refine HF.out.mono ?_;rintro e w2 ⟨g,rfl,s⟩;have c:=zI (ReadW.name r.nm.toList _ (show ReadW w1 w2 g (nmB r.nm.toList++(le 8 (u64 r.st)++agB r.ag)) from s) N.out (by simp));rw[K.out] at c;clear s;go_wp2_with fail
 refine c.out.mono ?_;rintro e w3 ⟨rfl,s⟩;have I:=zI (ReadW.int r.st _ s (by have:=L.out;omega) (by simp));clear s;go_wp2_with fail
 refine I.out.mono ?_;rintro e w4 ⟨rfl,s⟩;have n:=(qaa w4.heap.size w4).alloc (qab _) (.cells #[r.nm,(r.st:Int),(0:Int),(0:Int),.int .u64 0,(0:Int),(0:Int)] 142);have H:=zI (Bx.new w4 142 #[r.nm,(r.st:Int),(0:Int),(0:Int),.int .u64 0,(0:Int),(0:Int)]);have b:=zI (s.then_below n);have G:=zI (Juk g (agB r.ag) _ b.out.at_ (by simp));have a:=zI s.below.size;have F:=zI (show some w4.heap.size≠some g from fun e=>by cases e;have:=s.at_.bx.lt;omega);clear s n;go_wp2_with fail
 refine G.out.mono ?_;rintro e w5 ⟨rfl,hu,E⟩;have s:=b.out.grown hu E;have D:=zI (d.out.below s.below);have Z:=zI (j.out.trans (s.below.mono j.out.size));have C:=zI (H.out.grown E F.out);have A:=zI (HA.out w5);clear s hu E;go_wp2_with fail
 refine A.out.mono ?_;rintro e w6 ⟨rfl,q⟩;have hJ:=zI (D.out.below q);have Y:=zI (Z.out.trans (q.mono Z.out.size));have y:=C.out.below q;have Ha:=zI y;have c2:=y.at_ 2 rfl;have c3:=y.at_ 3 rfl;have c4:=y.at_ 4 rfl;have c5:=y.at_ 5 rfl;have c6:=y.at_ 6 rfl;have f2:=y.free 2;have f3:=y.free 3;have f4:=y.free 4;have f5:=y.free 5;have f6:=y.free 6;have Hb:=y.lt;have i:=Jaj (B:=w.heap.size) [(0:Int),(0:Int),.int .u64 0,(0:Int),(0:Int)] (g:=w4.heap.size) (qax j.out.size a.out) w6 2;have V:=Jcb (g:=w4.heap.size) [(0:Int),(0:Int),.int .u64 0,(0:Int),(0:Int)] w6 2;have U:=Jsx (g:=w4.heap.size) (T:=142) [(0:Int),(0:Int),.int .u64 0,(0:Int),(0:Int)] [(0:Int),(0:Int),.int .u64 0,(0:Int),(0:Int)] w6 [r.nm,(r.st:Int)] Ha.out rfl;have R:=hJ.out.chg V (by have:=d.out.lt;have:=a.out;omega);obtain⟨w7,p⟩:=exE ((putC w6 w4.heap.size 2 [(0:Int),(0:Int),.int .u64 0,(0:Int),(0:Int)]).alloc (.cells #[(0:Int),(0:Int),.int .u64 0,(0:Int),(0:Int)] 140));have P:=zI (R.alloc (.cells #[(0:Int),(0:Int),.int .u64 0,(0:Int),(0:Int)] 140));have x:=zI (show Bx _ w4.heap.size 142 #[r.nm,(r.st:Int),(0:Int),(0:Int),.int .u64 0,(0:Int),(0:Int)] from U.alloc (.cells #[(0:Int),(0:Int),.int .u64 0,(0:Int),(0:Int)] 140));have h:=zI ((Y.out.trans i).alloc (Y.out.trans i).size (.cells #[(0:Int),(0:Int),.int .u64 0,(0:Int),(0:Int)] 140));rw[show([Value.string r.nm,Value.int .i64 r.st]:List Value).length=2 from rfl] at x;rw[<- p] at P x h;simp only[putC,Nat.reduceAdd] at p;have Hc:=zI p;clear q y i V U R p;go_upto_region 5 with fail
 rw[<- Hc.out];have s0:=x.out.at_ 0 (v:= r.nm) rfl;have s1:=x.out.at_ 1 (v:= (r.st:Int)) rfl;have s2:=x.out.at_ 2 (v:= (0:Int)) rfl;have s3:=x.out.at_ 3 (v:= (0:Int)) rfl;have s4:=x.out.at_ 4 (v:= .int .u64 0) rfl;have s5:=x.out.at_ 5 (v:= (0:Int)) rfl;have s6:=x.out.at_ 6 (v:= (0:Int)) rfl;have Hd:=zI (HP.out w7);clear c2 c3 c4 c5 c6 f2 f3 f4 f5 f6 Hb;go_wp2_with fail
 refine Hd.out.mono ?_;rintro e w8 ⟨rfl,o⟩;have z:=zI (P.out.below o);have t:=zI (x.out.below o);have He:=zI (h.out.trans (o.mono h.out.size));clear s0 s1 s2 s3 s4 s5 s6 o;have s0:=t.out.at_ 0 (v:= r.nm) rfl;have s1:=t.out.at_ 1 (v:= (r.st:Int)) rfl;have s2:=t.out.at_ 2 (v:= (0:Int)) rfl;have s3:=t.out.at_ 3 (v:= (0:Int)) rfl;have s4:=t.out.at_ 4 (v:= .int .u64 0) rfl;have s5:=t.out.at_ 5 (v:= (0:Int)) rfl;have s6:=t.out.at_ 6 (v:= (0:Int)) rfl;have r0:=z.out.at_ 0 rfl;have r1:=z.out.at_ 1 rfl;have r2:=z.out.at_ 2 rfl;have r3:=z.out.at_ 3 rfl;have r4:=z.out.at_ 4 rfl;have r5:=z.out.at_ 5 rfl;have r6:=z.out.at_ 6 rfl;have f0:=z.out.free 0;have f1:=z.out.free 1;have f2:=z.out.free 2;have f3:=z.out.free 3;have f4:=z.out.free 4;have f5:=z.out.free 5;have f6:=z.out.free 6;go_wp2_with fail
 obtain⟨w9,f⟩:=exE (putC w8 w.heap.size 0 [.string ⟨#[]⟩,(0:Int),(0:Int),(0:Int),.int .u64 0,(0:Int),(0:Int)]);have u:=Jaw z.out [.string ⟨#[]⟩,(0:Int),(0:Int),(0:Int),.int .u64 0,(0:Int),(0:Int)] rfl;have O:=Jaj (B:=w.heap.size) [.string ⟨#[]⟩,(0:Int),(0:Int),(0:Int),.int .u64 0,(0:Int),(0:Int)] (qab _) w8 0;rw[<- f] at u O;simp only[putC,qa7,Nat.reduceAdd] at f;rw[<- f];have q0:=u.at_ 0 rfl;have q1:=u.at_ 1 rfl;have q2:=u.at_ 2 rfl;have q3:=u.at_ 3 rfl;have q4:=u.at_ 4 rfl;have q5:=u.at_ 5 rfl;have q6:=u.at_ 6 rfl;exact qa6 (v:= .tuple #[(⟨⟨#[]⟩,0,Ag.zero⟩:Rc).val,(6:Int)]) (by simp[results,Tryz.results334,go_sem,q0,q1,q2,q3,q4,q5,q6,Ag.zero]) rfl ⟨rfl,He.out.trans O⟩
theorem Jou:(⟨#[]⟩:ByteArray).toList=[]:=by rw[qaw]
theorem J5b:rcB ⟨⟨#[]⟩,0,Ag.zero⟩=zeros 64:=by
 show nmB (⟨#[]⟩:ByteArray).toList++(le 8 (u64 0)++agB Ag.zero)=zeros 64;rw[Jou];decide
theorem J8s:Ag.zero.Ok:=⟨by decide,by decide,by decide,by decide,by decide⟩
theorem J5c{l:List Rc}(hf:∀r∈l,r.Fine){k:Nat}(hk:k<l.length)(T:List UInt8):(strOf (l.flatMap rcB++T)).extract (64*k) (64*k+64)=strOf (rcB l[k]):=by
 have e:l.flatMap rcB++T=(l.take k).flatMap rcB++(rcB l[k]++((l.drop (k+1)).flatMap rcB++T)):=by
  conv=>lhs;rw[<- qa8 k l]
  rw[qav,qbm hk,qau];simp only[qas]
 have z:((l.take k).flatMap rcB).length=64*k:=by
  rw[Jbp (fun r hr=>(hf r (qbi hr)).len),qao];omega
 have y:(rcB l[k]).length=64:=Ji4 (hf _ (qan hk)).len;have:=Jc9 ((l.take k).flatMap rcB) (rcB l[k]) ((l.drop (k+1)).flatMap rcB++T);rw[z,y,<- e] at this;exact this
theorem J8t{l:List Rc}(hf:∀r∈l,r.Fine){z:Nat}(hz:1<=z):(strOf (l.flatMap rcB++zeros (64*z))).extract (64*l.length) (64*l.length+64)=strOf (zeros 64):=by
 have y:(l.flatMap rcB).length=64*l.length:=Jbp (fun r hr=>(hf r hr).len)
 have e:zeros (64*z)=zeros 64++zeros (64*(z - 1)):=by
  unfold zeros;rw[List.replicate_append_replicate]
  congr 1
  omega
 have:=Jc9 (l.flatMap rcB) (zeros 64) (zeros (64*(z - 1)));rw[y,<- e] at this;exact this
theorem Jxd(l:List Rc)(z:Nat)(w:World)(hf:∀r∈l,r.Fine)(hn:l.length+z<=10000)(hz:1<=z):
  Cs 282 #[(strOf (l.flatMap rcB++zeros (64*z)))] w (RB w (.tuple #[(),(6:Int)])):=by
 have J:=zI (fun k (O:k<l.length)=>J5c hf O (zeros (64*z)));have N:=zI (J8t hf hz);have b:=zI (fun W=>show Cs 334 #[(strOf (zeros 64))] W (RB W (.tuple #[.agg #[.string ⟨#[]⟩,(0:Int),(0:Int),(0:Int),.int .u64 0,(0:Int),(0:Int)],(6:Int)])) from by rw[<- J5b];exact Jta ⟨⟨#[]⟩,0,Ag.zero⟩ W (by show(⟨#[]⟩:ByteArray).toList.length<=15;rw[Jou];decide) (by decide) J8s rfl (by show Jae (⟨#[]⟩:ByteArray).toList=false;rw[Jou];decide));have I:=zI (fun r (hr:r∈l) W=>Jm0 r W (hf r hr));obtain⟨L,f⟩:=exE l.length;have H:=zI f;have G:(strOf (l.flatMap rcB++zeros (64*z))).size=64*(L+z):=by rw[Jaa,qad,Jbp (fun r hr=>(hf r hr).len),Jbr,f];omega
 have F:L+z<=10000:=by omega
 have M:((64*((L:Int)+(z:Int))) % 64)=0:=by omega
 rw[<- f] at N;generalize strOf (l.flatMap rcB++zeros (64*z))=S at*;clear hf hn f;go_enter Tryz.func282,Tryz.ntmps282;go_wp2_with fail
 go_loopw [4,5] (fun v i wr=>∃k:Nat,k<=L/\i= .int .i64 ((64*k:Nat):Int)/\wr.ownsRow w.heap.size 142 7 v k ((l.take k).flatMap Rc.cells)/\Below w.heap.size w wr) (fun _ i _=>64*(L+z) - (intOf i).toNat)
 case atStart=>exact⟨0,qaq _,rfl,qaz _ _ _ _,qaa _ _⟩
 case round=>
  obtain⟨k,O,rfl,u,d⟩:=hrel;by_cases a:k<L
  · have K:k<l.length:=by rw[<- H.out];exact a
    have Z:=J.out k K;have t:=zI (I.out l[k] (qan K) wr)
    have E:=zI (show(l.take k).flatMap Rc.cells++l[k].cells=(l.take (k+1)).flatMap Rc.cells from by
     rw[qam K,qav];simp)
    have Y:=zI (Ju0 l[k]);have D:=zI u;have o:=zI d;generalize l[k]'K=x at*;clear u d;have V:64*k<64*(L+z):=(by omega);go_wp2_with fail
    rw[Z];refine t.out.mono ?_;rintro e w2 ⟨rfl,y⟩;have s:=y.alloc y.size (.cells #[x.nm,(x.st:Int),(x.ag.c:Int),(x.ag.hi:Int),.int .u64 x.ag.lo,(x.ag.mn:Int),(x.ag.mx:Int)] 142);have q:=s.alloc s.size (.cells #[x.nm,(x.st:Int),(x.ag.c:Int),(x.ag.hi:Int),.int .u64 x.ag.lo,(x.ag.mn:Int),(x.ag.mx:Int)] 142);have n:=Sl.new (w2.alloc (.cells #[x.nm,(x.st:Int),(x.ag.c:Int),(x.ag.hi:Int),.int .u64 x.ag.lo,(x.ag.mn:Int),(x.ag.mx:Int)] 142)) 142 (w2.heap.size+1) x.cells #[x.nm,(x.st:Int),(x.ag.c:Int),(x.ag.hi:Int),.int .u64 x.ag.lo,(x.ag.mn:Int),(x.ag.mx:Int)] (by simp) rfl;have m:=o.out.trans (q.mono o.out.size);have j:=zI (Jaf D.out q);have p:=zI m;have U:=zI n;have C:=zI (show k+1<=1000000 from by omega);clear y s q n m;go_wp2_with (at_builtin;refine Jt1 rfl _ _ rfl j.out rfl (some ⟨w2.heap.size+1,0,none⟩) 1 1 x.cells rfl rfl U.out Y.out C.out p.out.size ?_;intro A' c' w5 h T)
    have R:=Jbd j.out T p.out p.out.size;rw[E.out] at h;go_roundw
    case rel=>exact⟨k+1,by omega,by go_num,h,R⟩
    case measure=>simp[intOf];omega
  · have P:L=k:=by omega
    subst P;have Z:=N.out;have t:=zI (b.out wr);have o:=zI d;have V:64*L<64*(L+z):=(by omega);clear u d;go_wp2_with fail
    rw[Z];refine t.out.mono ?_;rintro e w2 ⟨rfl,y⟩;have g:=zI (o.out.trans (y.mono o.out.size));clear y;go_wp2_with fail
    go_ret2;exact⟨rfl,g.out.alloc g.out.size _⟩
def wlM:List UInt8:=[87,76,79,71]
def wlHd (gen number place of n:Nat):List UInt8:=wlM++(le 8 gen++(le 4 number++(le 2 place++(le 2 of++(le 2 n++zeros 10)))))
def wlBk (gen number place of:Nat) (l:List UInt8):List UInt8:=wlHd gen number place of l.length++(l++zeros (224 - l.length))
theorem Jj4(gen number place of n:Nat):(wlHd gen number place of n).length=32:=by simp[wlHd,wlM]
theorem J5d(gen number place of:Nat){l:List UInt8}(h:l.length<=224):(wlBk gen number place of l).length=256:=by
 unfold wlBk;rw[qad,qad,Jj4,Jbr];omega
def wlN (n:Nat):Nat:=if n=0 then 1 else (n - 1) / 224+1
def wlPt (l:List UInt8) (p:Nat):List UInt8:=(l.drop (224*p)).take 224
def wlL (gen number:Nat) (l:List UInt8):List ByteArray:=(List.range (wlN l.length)).map fun p=>strOf (wlBk gen number p (wlN l.length) (wlPt l p))
theorem J94:Jc7 4:=by unfold Jc7;simp
abbrev lbV (gen number place of n:Nat):Value:= .agg #[.int .u64 (gen:Int),(number:Int),(place:Int),(of:Int),(n:Int)]
structure J95 (gen number place of n:Nat):Prop where
 gen:gen<18446744073709551616
 number:number<65536
 place:place<65536
 of:of<65536
 n:n<65536
theorem J5e(gen number place of n:Nat)(w:World)(h:J95 gen number place of n):
  Cs 380 #[lbV gen number place of n] w (RB w (strOf (wlHd gen number place of n))):=by
 have u:=(qaa w.heap.size w).alloc (qab _) (.cells #[.int .u64 (gen:Int),(number:Int),(place:Int),(of:Int),(n:Int)] 423);have y:=Bx.new w 423 #[.int .u64 (gen:Int),(number:Int),(place:Int),(of:Int),(n:Int)];obtain⟨w1,t⟩:=exE (w.alloc (.cells #[.int .u64 (gen:Int),(number:Int),(place:Int),(of:Int),(n:Int)] 423));rw[<- t] at u y;have o:=zI t;have x:=zI y;have s:=zI u;have p:=zI h;have s0:=y.at_ 0 (v:= .int .u64 (gen:Int)) rfl;have m:=y.lt;clear t u y h;go_enter Tryz.func380,Tryz.ntmps380;go_upto_region 1 with fail
 rw[<- o.out];go_wp2_with fail
 refine(LayW.words0 w1 [gen] 1 1 #[.int .u64 (gen:Int)] rfl rfl (by omega)).mono ?_;rintro e w3 ⟨rfl,z⟩;have k:=zI z;have s1:=(z.bx x.out).at_ 1 (v:= (number:Int)) rfl;clear z s0 m;go_wp2_with fail
 refine(k.out.small 4 J94 [number] (by have:=p.out.number;simp;omega) 1 1 #[(number:Int)] rfl rfl (by simp)).mono ?_;rintro e w4 ⟨rfl,z⟩;have j:=zI z;have s2:=(z.bx x.out).at_ 2 (v:= (place:Int)) rfl;have s3:=(z.bx x.out).at_ 3 (v:= (of:Int)) rfl;have s4:=(z.bx x.out).at_ 4 (v:= (n:Int)) rfl;clear z s1;go_wp2_with fail
 refine(j.out.small 2 Jji [place,of,n] (by have:=p.out.place;have:=p.out.of;have:=p.out.n;simp;omega) 3 3 #[(place:Int),(of:Int),(n:Int)] rfl rfl (by simp)).mono ?_;rintro e w5 ⟨rfl,z⟩;have i:=zI z;clear z s2 s3 s4;go_wp2_with fail
 refine(i.out.fill 28 (by simp) (by omega)).mono ?_;rintro e w6 ⟨rfl,z⟩;have r:=zI z;clear z;go_wp2_with fail
 refine r.out.done.mono ?_;rintro e w7 ⟨rfl,d⟩;subst d;have q:∀l:List UInt8,l.length<=100 ->(strOf l).size<=100:=fun l h=>by rw[Jaa];exact h
 have f:wlM++([gen].flatMap (le 8)++[number].flatMap (le 4)++[place,of,n].flatMap (le 2)++zeros (28 - ([gen].flatMap (le 8)++[number].flatMap (le 4)++[place,of,n].flatMap (le 2)).length))=wlHd gen number place of n:=by simp[wlHd]
 have b:=q ([gen].flatMap (le 8)++[number].flatMap (le 4)++[place,of,n].flatMap (le 2)++zeros (28 - ([gen].flatMap (le 8)++[number].flatMap (le 4)++[place,of,n].flatMap (le 2)).length)) (by simp);generalize [gen].flatMap (le 8)++[number].flatMap (le 4)++[place,of,n].flatMap (le 2)++zeros (28 - ([gen].flatMap (le 8)++[number].flatMap (le 4)++[place,of,n].flatMap (le 2)).length)=X at*;have g:=zI (show(⟨#[87,76,79,71]⟩:ByteArray)++strOf X=strOf (wlHd gen number place of n) from by rw[<- f];apply Ja7;simp[strOf,wlM]);have c:=zI (s.out.trans (r.out.below.mono s.out.size));clear f q;go_wp2_with fail
 rw[g.out];go_ret;exact⟨rfl,c.out⟩
theorem J8u(gen number place of:Nat)(l:List UInt8)(w:World)(hl:l.length<=224)(h:J95 gen number place of l.length):
  Cs 321 #[lbV gen number place of l.length,strOf l] w (RB w (strOf (wlBk gen number place of l))):=by
 obtain⟨n,o⟩:=exE l.length;rw[<- o] at hl h ⊢;have x:=(qaa w.heap.size w).alloc (qab _) (.cells #[.int .u64 (gen:Int),(number:Int),(place:Int),(of:Int),(n:Int)] 423);have u:=Bx.new w 423 #[.int .u64 (gen:Int),(number:Int),(place:Int),(of:Int),(n:Int)];obtain⟨w1,t⟩:=exE (w.alloc (.cells #[.int .u64 (gen:Int),(number:Int),(place:Int),(of:Int),(n:Int)] 423));rw[<- t] at x u;have k:=zI t;have j:=zI u;have y:=zI x;have V:=zI h;have s:(strOf l).size=n:=by rw[Jaa,o]
 have r:IntKind.i64.wrap (224 - (n:Int))=((224 - n:Nat):Int):=by rw[qbd _ (by omega)];omega
 obtain⟨m,i⟩:=exE (224 - n);rw[<- i] at r;have W:=zI i;have U:=zI o;have g:=zI (LayW.fill0 w1 m (by omega));have f:=zI s;obtain⟨S,d⟩:=exE (strOf l);rw[<- d] at s ⊢;have T:=zI d;have R:n<=224:=hl;clear t x u h i o d f;go_enter Tryz.func321,Tryz.ntmps321;go_upto_region 1 with fail
 rw[<- k.out];go_wp2_with fail
 refine g.out.mono ?_;rintro e w3 ⟨rfl,hl⟩;have q:=zI hl;have z:=hl.bx j.out;have s0:=z.at_ 0 (v:= .int .u64 (gen:Int)) rfl;have s1:=z.at_ 1 (v:= (number:Int)) rfl;have s2:=z.at_ 2 (v:= (place:Int)) rfl;have s3:=z.at_ 3 (v:= (of:Int)) rfl;have s4:=z.at_ 4 (v:= (n:Int)) rfl;clear hl z;go_wp2_with fail
 refine q.out.done.mono ?_;rintro e w4 ⟨rfl,P⟩;subst P;have c:=zI (J5e gen number place of n w3 V.out);go_wp2_with fail
 refine c.out.mono ?_;rintro e w5 ⟨rfl,p⟩;have b:=zI ((y.out.trans (q.out.below.mono y.out.size)).trans (p.mono (y.out.trans (q.out.below.mono y.out.size)).size));have a:(strOf (wlHd gen number place of n)).size=32:=by rw[Jaa,Jj4]
 have O:(strOf (zeros m)).size=m:=by rw[Jaa,Jbr]
 have Y:=zI (show strOf (wlHd gen number place of n)++S++strOf (zeros m)=strOf (wlBk gen number place of l) from by
  rw[T.out,W.out,U.out];apply Ja7;simp[strOf,wlBk])
 have N:(strOf (wlHd gen number place of n)++S).size=32+n:=by rw[ByteArray.size_append,a,s]
 generalize strOf (wlHd gen number place of n)=H at*;generalize strOf (zeros m)=Z at*;have M:m<=224:=by have:=W.out;omega
 clear p s0 s1 s2 s3 s4;go_wp2_with fail
 rw[Y.out];go_ret;exact⟨rfl,b.out⟩
theorem Jxe(n:Nat)(w:World)(h:n<=1000000):Cs 320 #[(n:Int)] w (RS w (wlN n:Int)):=by
 have y:decide ((n:Int)<0)=false:=qae (by omega);by_cases z:n=0
 · subst z
   go_enter Tryz.func320,Tryz.ntmps320;go_wp2;go_ret;exact⟨rfl,rfl⟩
 · have v:((n:Int)==0)=false:=by rw[qat];omega
   have x:=zI (show((n:Int) - 1) / 224+1=(wlN n:Int) from by unfold wlN;rw[qay z];omega);go_enter Tryz.func320,Tryz.ntmps320;go_wp2;go_ret;exact⟨by rw[<- x.out];rfl,rfl⟩
theorem Jj5(l:List UInt8)(p:Nat):(wlPt l p).length<=224:=by unfold wlPt;rw[qao];omega
theorem Jd7(gen number:Nat)(l:List UInt8):(wlL gen number l).length=wlN l.length:=by simp[wlL]
def wlT (gen number:Nat) (l:List UInt8) (q:Nat):List Value:=(List.range q).map fun p=>Value.string (strOf (wlBk gen number p (wlN l.length) (wlPt l p)))
theorem J5f(gen number:Nat)(l:List UInt8)(q:Nat):wlT gen number l (q+1)=wlT gen number l q++[.string (strOf (wlBk gen number q (wlN l.length) (wlPt l q)))]:=by
 unfold wlT;rw[qbw,qbg];rfl
theorem J8v(gen number:Nat)(l:List UInt8):wlT gen number l (wlN l.length)=(wlL gen number l).map Value.string:=by
 unfold wlT wlL;rw[qcl];rfl
theorem J5g(l:List UInt8)(q:Nat):(strOf l).extract (224*q) (min (224*(q+1)) l.length)=strOf (wlPt l q):=by
 apply ByteArray.ext;rw[qcq];unfold strOf wlPt;apply Array.toList_inj.1;rw[Array.toList_extract];simp only[List.extract_eq_take_drop];by_cases h:224*(q+1)<=l.length
 · rw[Nat.min_eq_left h,show 224*(q+1) - 224*q=224 from by omega]
 · rw[Nat.min_eq_right (by omega)]
   rw[qap (by rw[qa2];omega),qap (by rw[qa2];omega)]
theorem J1s(gen number:Nat)(l:List UInt8)(w:World)(hl:l.length<=3600)(hg:gen<18446744073709551616)(hn:number<65536):
  Cs 261 #[.int .u64 (gen:Int),(number:Int),strOf l] w fun e w'=>∃v,e= .returned v/\w'.ownsRow w.heap.size 9 1 v (wlN l.length) ((wlL gen number l).map Value.string)/\Below w.heap.size w w':=by
 obtain⟨n,y⟩:=exE l.length;have c:wlN l.length<=17/\1<=wlN l.length/\224*(wlN l.length - 1)<=n:=by unfold wlN;split<;>omega
 have o:=zI (Jxe n w (by omega));have x:=zI (fun q=>J5g l q);have m:=zI (fun q W (H:q<17)=>J8u gen number q (wlN l.length) (wlPt l q) W (Jj5 l q) ⟨hg,hn,by omega,by omega,by have:=Jj5 l q;omega⟩);have k:=zI (J5f gen number l);have i:=zI (J8v gen number l);rw[<- y] at x;obtain⟨N,t⟩:=exE (wlN l.length);rw[<- t] at c m k i ⊢;rw[y,<- t,<- y] at o;have V:(strOf l).size=n:=by rw[Jaa,y]
 obtain⟨S,K⟩:=exE (strOf l);rw[<- K] at V x ⊢;have J:n<=3600:=by omega
 have G:=zI c;have F:=zI y;clear hl hg hn y t K c;go_enter Tryz.func261,Tryz.ntmps261;go_wp2_with fail
 refine o.out.mono ?_;rintro e w1 ⟨rfl,E⟩;subst E;go_wp2_with fail
 go_loopw [7,15] (fun v j wr=>∃q:Nat,q<=N/\j= .int .i64 (q:Int)/\wr.ownsRow w.heap.size 9 1 v q (wlT gen number l q)/\Below w.heap.size w wr) (fun _ j _=>N - (intOf j).toNat)
 case atStart=>exact⟨0,qaq _,rfl,qaz _ _ _ _,qaa _ _⟩
 case round=>
  obtain⟨q,H,rfl,z,a⟩:=hrel;have c:=G.out;by_cases D:q<N
  · have C:=zI (k.out q)
    have U:=zI z;have Y:=zI a;have I:=zI (x.out q);have B:=zI (show q+1<=1000000 from by omega);have A:=zI (Jj5 l q);obtain⟨b,h⟩:=exE (min (224*(q+1)) n);have hJ:min (((q:Int)+1)*224) (n:Int)=(b:Int):=(by omega);have Ha:q*224<=b/\b<=n:=(by omega);rw[<- h,Nat.mul_comm 224 q] at I
    have g:b - q*224=(wlPt l q).length:=by
     unfold wlPt;rw[qao,qa2,<- F.out];omega
    have T:=zI g;have HP:=zI (fun W=>m.out q W (by omega));have Hb:min b n=b:=(by omega);clear z a h g;go_wp2_with fail
    rw[I.out,T.out];refine(HP.out _).mono ?_;rintro e w2 ⟨rfl,s⟩;generalize strOf (wlBk gen number q N (wlPt l q))=Z at*;have r:=s.alloc s.size (.cells #[Z] 9);have R:=zI (Sl.new w2 9 w2.heap.size [Z] #[Z] rfl rfl);have P:=zI (show ∀u∈([Z]:List Value),u.oneCell'=true from by intro u hu;rw[qa1.1 hu];rfl);have f:=zI (Jaf U.out r);have p:=zI (Y.out.trans (r.mono Y.out.size));clear s r;go_wp2_with (at_builtin;refine Jkv rfl _ _ rfl f.out rfl (some ⟨w2.heap.size,0,none⟩) 1 1 [Z] rfl rfl R.out P.out B.out p.out.size ?_;intro A' c' w5 d O)
    have M:=Jbd f.out O p.out p.out.size;rw[<- C.out] at d;go_roundw
    case rel=>exact⟨q+1,by omega,by go_num,d,M⟩
    case measure=>simp[intOf];omega
  · have L:q=N:=by omega
    subst L;have U:=zI z;have Y:=zI a;clear z a;go_wp2_with fail
    go_ret;exact⟨_,rfl,by rw[<- i.out];exact U.out,Y.out⟩
def fldN (b:ByteArray) (i:Nat):Nat:=leN ((b.data.toList.drop i).take 2)
def wOf (bs:List ByteArray):Nat:=fldN (bs.headD ByteArray.empty) 18
def wCat (bs:List ByteArray):List UInt8:=bs.flatMap fun b=>b.data.toList.drop 32
def wRec (bs:List ByteArray):List UInt8:=(wCat (bs.take (wOf bs))).take (224*wOf bs - 224+fldN ((bs.take (wOf bs)).getLastD ByteArray.empty) 20)
def Ja9 (gen number:Nat) (bs:List ByteArray):Option (List UInt8×Nat):=
 if wOf bs<1\/bs.length<wOf bs then none
 else if 224<fldN ((bs.take (wOf bs)).getLastD ByteArray.empty) 20 then none
 else if 3000<(wRec bs).length\/wlL gen number (wRec bs)≠bs.take (wOf bs) then none
 else some (wRec bs,wOf bs)
theorem J1t(l:List UInt8):leN (l.take 2)<65536:=by
 have h:=Jo3 (l.take 2);have:(l.take 2).length<=2:=by rw[qao];omega
 have z:256 ^ (l.take 2).length<=256 ^ 2:=qcn (by omega) this;omega
theorem Jtb(b:ByteArray)(i:Nat):fldN b i<65536:=J1t _
theorem Jgv(l:List UInt8)(k:Nat)(h:k<=l.length):l=le k (leN (l.take k))++l.drop k:=by
 have e:(l.take k).length=k:=by rw[qao];omega
 have:=Jjc (l.take k);rw[e] at this;rw[this,qa8]
theorem Jxf(l:List UInt8)(h:l.length=28):∃a b c r,l=le 8 a++(le 4 b++(le 2 c++(le 2 (leN ((l.drop 14).take 2))++(le 2 (leN ((l.drop 16).take 2))++r))))/\a<18446744073709551616/\b<4294967296/\c<65536/\r.length=10:=by
 refine⟨leN (l.take 8),leN ((l.drop 8).take 4),leN ((l.drop 12).take 2),l.drop 18,?_,?_,?_,J1t _,by rw[qa2];omega⟩
 · have e1:=Jgv l 8 (by omega)
   have e2:=Jgv (l.drop 8) 4 (by rw[qa2];omega);have e3:=Jgv (l.drop 12) 2 (by rw[qa2];omega);have e4:=Jgv (l.drop 14) 2 (by rw[qa2];omega);have e5:=Jgv (l.drop 16) 2 (by rw[qa2];omega);rw[qdj] at e2 e3 e4 e5;rw[<- e5,<- e4,<- e3,<- e2,<- e1]
 · have z:=Jo3 (l.take 8)
   rw[show(l.take 8).length=8 from by rw[qao];omega] at z;exact z
 · have z:=Jo3 ((l.drop 8).take 4)
   rw[show((l.drop 8).take 4).length=4 from by rw[qao,qa2];omega] at z;exact z
theorem Jvh:∀bs:List ByteArray,(∀b∈bs,b.size=256) ->(wCat bs).length=224*bs.length
 | [],_=>rfl
 | b::r,h=>by
   unfold wCat;rw[qau,qad,qa2];have z:=Jvh r (fun x hx=>h x (by simp[hx]));unfold wCat at z;have y:b.data.toList.length=256:=h b (by simp);rw[z,y,qa3];omega
theorem J1u(bs:List ByteArray)(b:ByteArray):wCat (bs++[b])=wCat bs++b.data.toList.drop 32:=by simp[wCat]
theorem J5h(b:ByteArray)(i:Nat)(h:b.size=256):b.extract i 256=strOf (b.data.toList.drop i):=by
 apply ByteArray.ext;rw[qcq];unfold strOf;apply Array.toList_inj.1;rw[Array.toList_extract];simp only[List.extract_eq_take_drop];rw[qap];rw[qa2];have:b.data.toList.length=256:=h;omega
theorem Jov(b:ByteArray)(i j:Nat):b.extract i j=strOf ((b.data.toList.drop i).take (j - i)):=by
 apply ByteArray.ext;rw[qcq];unfold strOf;apply Array.toList_inj.1;rw[Array.toList_extract]
theorem J1v(b:ByteArray)(i k:Nat)(h:i<=k)(h2:k+2<=32):leN (((((b.data.toList.drop i).take (32 - i))).drop (k - i)).take 2)=fldN b k:=by
 unfold fldN;rw[List.drop_take,qdj,List.take_take,show i+(k - i)=k from by omega,show min 2 (32 - i - (k - i))=2 from by omega]
def J1w (o:Option (List UInt8×Nat)):Value:=match o with
 | none=> .tuple #[ByteArray.empty,(0:Int)]
 | some (s,k)=> .tuple #[strOf s,(k:Int)]
theorem J1x(gen number:Nat)(A:Option Addr)(n c:Nat)(bs:List ByteArray)(w:World)(hs:Strs w A n bs)(hsz:∀b∈bs,b.size=256)(hn:1<=n/\n<=16)(hc:n<=c)(hg:gen<18446744073709551616)(hnum:number<65536):
  Cs 223 #[.int .u64 (gen:Int),(number:Int),.slice A n c] w (RB w (J1w (Ja9 gen number bs))):=by
 have hl:=hs.len;obtain⟨b,off,rfl,t,Hc⟩:=hs.get (j:=0) (by omega);obtain⟨b0,o⟩:=exE (bs[0]'(by omega));rw[<- o,qdg] at Hc;have J:b0.size=256:=hsz b0 (by rw[o];exact qan _)
 have Hd:bs.headD ByteArray.empty=b0:=by
  cases bs with
  | nil=>simp at hl;omega
  | cons x r=>rw[o];rfl
 obtain⟨a1,a2,a3,r,m,I,h2,h3,h4⟩:=Jxf ((b0.data.toList.drop 4).take 28) (by
  rw[qao,qa2];have:b0.data.toList.length=256:=J;omega)
 obtain⟨of,V⟩:=exE (wOf bs)
 have e4:leN ((((b0.data.toList.drop 4).take 28).drop 14).take 2)=of:=by
  rw[V];unfold wOf;rw[Hd];exact J1v b0 4 18 (by omega) (by omega)
 obtain⟨f0,U⟩:=exE (fldN b0 20)
 have e5:leN ((((b0.data.toList.drop 4).take 28).drop 16).take 2)=f0:=by
  rw[U];exact J1v b0 4 20 (by omega) (by omega)
 rw[e4,e5] at m;have He:of<65536:=by rw[V];exact Jtb _ _
 have Hf:f0<65536:=by rw[U];exact Jtb _ _
 have HX:=zI (show b0.extract 4 32=strOf (le 8 a1++(le 4 a2++(le 2 a3++(le 2 of++(le 2 f0++r))))) from by rw[Jov,<- m]);have HF:=zI (ReadW.from_ w (qaa _ w) (le 8 a1++(le 4 a2++(le 2 a3++(le 2 of++(le 2 f0++r))))) (by simp[h4]));have HS:=zI hs;have H:=zI hsz;have z:=zI V;have Kh:=zI o;have Ki:=zI U;have T:=zI hl;have KH:b0.size=256:=J;clear hs hsz o J Hd m e4 e5 V U;go_enter Tryz.func223,Tryz.ntmps223;go_wp2_with fail
 rw[HX.out];refine HF.out.mono ?_;rintro e w1 ⟨gu,rfl,Hg⟩;have HW:=zI (Hg.word a1 _ I (by simp[h4]));clear Hg;go_wp2_with fail
 refine HW.out.mono ?_;rintro e w2 ⟨rfl,Hh⟩;have Hi:=zI (Hh.small 4 a2 _ (.inr (.inr rfl)) h2 (by simp[h4]));clear Hh;go_wp2_with fail
 refine Hi.out.mono ?_;rintro e w3 ⟨rfl,Hj⟩;have Hk:=zI (Hj.small 2 a3 _ (.inr (.inl rfl)) h3 (by simp[h4]));clear Hj;go_wp2_with fail
 refine Hk.out.mono ?_;rintro e w4 ⟨rfl,Hl⟩;have Hm:=zI (Hl.small 2 of _ (.inr (.inl rfl)) He (by simp[h4]));clear Hl;go_wp2_with fail
 refine Hm.out.mono ?_;rintro e w5 ⟨rfl,G⟩;have Kj:=zI G;have Kk:=G.below;have F:=zI Kk;clear G HW Hi Hk Hm HF I h2 h3 Hc t;by_cases Kl:of<1
 · have d1:decide ((of:Int)<1)=true:=qaj (by omega)
   have HV:=zI (show Ja9 gen number bs=none from by unfold Ja9;rw[<- z.out,qa0 (.inl Kl)]);go_wp2_with fail
   go_ret2;exact⟨by rw[HV.out];rfl,F.out⟩
 have d1:decide ((of:Int)<1)=false:=qae (by omega);by_cases Km:n<of
 · have d2:decide ((n:Int)<(of:Int))=true:=qaj (by omega)
   have HV:=zI (show Ja9 gen number bs=none from by unfold Ja9;rw[<- z.out,qa0 (.inr (by rw[T.out];exact Km))]);go_wp2_with fail
   go_ret2;exact⟨by rw[HV.out];rfl,F.out⟩
 have d2:decide ((n:Int)<(of:Int))=false:=qae (by omega);have KI:of<=n:=by omega
 have KJ:of<=c:=by omega
 have Kn:∃wo:World,wo=w5:=⟨_,rfl⟩;go_wp2_with fail
 go_loopw [10,42] (fun x i wr=>∃q:Nat,q<=of/\i= .int .i64 (q:Int)/\x= .string (strOf (wCat (bs.take q)))/\w5=wr) (fun _ i _=>of - (intOf i).toNat)
 case atStart=>exact⟨0,qaq _,rfl,rfl,rfl⟩
 case round =>
  obtain⟨q,hq,rfl,rfl,E⟩:=hrel;subst E
  have S:(wCat (bs.take q)).length=224*q:=by
   rw[Jvh _ (fun x hx=>H.out x (qbi hx)),qao,T.out];omega
  by_cases t:q<of
  · have l:q<bs.length:=by rw[T.out];omega
    obtain⟨b',off',e,y,Hn⟩:=(HS.out.below F.out).get (j:=q) l;cases e
    have P:(bs[q]).size=256:=H.out _ (qan _);have D:=zI (J5h (bs[q]) 32 P)
    have Ko:=zI (show strOf (wCat (bs.take q))++strOf ((bs[q]).data.toList.drop 32)=strOf (wCat (bs.take (q+1))) from by
     rw[qam l,J1u];apply Ja7;simp[strOf])
    have O:(strOf (wCat (bs.take q))).size=224*q:=(by rw[Jaa,S])
    have KM:(strOf ((bs[q]).data.toList.drop 32)).size=224:=by
     rw[Jaa,qa2];have:(bs[q]).data.toList.length=256:=P;omega
    generalize strOf (wCat (bs.take q))=X at*;generalize strOf ((bs[q]).data.toList.drop 32)=Y at*;generalize bs[q]=bq at*;have KN: ¬ 9223372036854775807<X.size+224:=(by omega);have KO:=zI O;clear O;go_wp2_with fail
    go_roundw
    case rel=>exact⟨q+1,by omega,by go_num,by rw[D.out,Ko.out],by first | rfl | trivial⟩
    case measure=>simp[intOf];omega
  · have Kp :q=of:=by omega
    subst Kp;have Kq:=zI (Kj.out.small 2 f0 r (.inr (.inl rfl)) Hf (by simp[h4]));obtain⟨nl,N⟩:=exE (fldN ((bs.take q).getLastD ByteArray.empty) 20);have l:q - 1<bs.length:=by rw[T.out];omega
    have g:(bs.take q).getLastD ByteArray.empty=bs[q - 1]:=by
     rw[List.getLastD_eq_getLast?,List.getLast?_take,qay (by omega),qah l];rfl
    have Ho:=zI (show nl=fldN (bs[q - 1]) 20 from by rw[N,g]);have Hp:nl<65536:=by rw[N];exact Jtb _ _
    have f:=zI N;have Kr:=zI S;have L:(strOf (wCat (bs.take q))).size=224*q:=(by rw[Jaa,S]);have Hq:=zI L;obtain⟨X,hX⟩:=exE (strOf (wCat (bs.take q)));rw[<- hX] at Hq ⊢;have HX:=zI hX;clear N g S L hX Kn;go_wp2_with fail
    refine Kq.out.mono ?_;rintro e w6 ⟨rfl,h6⟩;have M:=zI h6.below;clear h6;go_upto_if 54 with fail
    go_cut [13] (fun s13 wx=>s13= .int .i64 (nl:Int)/\Below w.heap.size w wx)
    case first=>
     by_cases Ks:q=1
     · subst Ks
       have he:nl=f0:=(by rw[Ho.out,Ki.out,Kh.out]);have HE:=zI he;clear he;go_wp2_with fail
       go_meet;exact⟨by rw[HE.out],M.out⟩
     · have d5:decide ((1:Int)<(q:Int))=true:=qaj (by omega)
       obtain⟨b',off',e,y,Hn⟩:=(HS.out.below M.out).get (j:=q - 1) l;cases e
       have P:(bs[q - 1]).size=256:=H.out _ (qan _)
       have Hr:(((bs[q - 1]).data.toList.drop 20).take 12).length=12:=by
        rw[qao,qa2];have:(bs[q - 1]).data.toList.length=256:=P;omega
       have C:=Jgv (((bs[q - 1]).data.toList.drop 20).take 12) 2 (by omega)
       have Hs:leN ((((bs[q - 1]).data.toList.drop 20).take 12).take 2)=nl:=by
        rw[Ho.out];have:=J1v (bs[q - 1]) 20 20 (by omega) (by omega)
        simpa using this
       rw[Hs] at C;have D:=zI (show(bs[q - 1]).extract 20 32=strOf (le 2 nl++(((bs[q - 1]).data.toList.drop 20).take 12).drop 2) from by rw[Jov,<- C]);have KP:((((bs[q - 1]).data.toList.drop 20).take 12).drop 2).length<=100:=by rw[qa2];omega
       generalize (((bs[q - 1]).data.toList.drop 20).take 12).drop 2=R at*;generalize bs[q - 1]=bq at*;have HF:=zI (ReadW.from_ w6 (qaa _ w6) (le 2 nl++R) (by simp;omega));have KQ:IntKind.i64.wrap ((q:Int) - 1)=((q - 1:Nat):Int):=by rw[qbd _ (by omega)];omega
       have KK:q - 1<n:=(by omega);clear C Hs Hr y;go_wp2_with fail
       rw[D.out];refine HF.out.mono ?_;rintro e w7 ⟨g7,rfl,h7⟩;have Kt:=zI (h7.small 2 nl R (.inr (.inl rfl)) Hp (by omega));clear h7;go_wp2_with fail
       refine Kt.out.mono ?_;rintro e w8 ⟨rfl,h8⟩;have Ku:=zI (M.out.trans (h8.below.mono M.out.size));clear h8;go_wp2_with fail
       go_meet;exact⟨rfl,Ku.out⟩
    case rest=>
     obtain⟨rfl,Ht⟩:=hcut;have B:=zI Ht;clear Ht;by_cases d:224<nl
     · have d6:decide ((224:Int)<(nl:Int))=true:=qaj (by omega)
       have HV:=zI (show Ja9 gen number bs=none from by unfold Ja9;rw[<- z.out,qay (by rw[T.out];omega),<- f.out,qa0 d]);go_wp2_with fail
       go_ret2;exact⟨by rw[HV.out];rfl,B.out⟩
     have d6:decide ((224:Int)<(nl:Int))=false:=qae (by omega);have O:=Hq.out;obtain⟨s,hs⟩:=exE (wRec bs)
     have Hu:s.length=224*q - 224+nl:=by
      rw[hs];unfold wRec;rw[<- z.out,<- f.out,qao,Kr.out];omega
     have Hv:X.extract 0 (224*q - 224+nl)=strOf s:=by
      rw[hs];unfold wRec;rw[<- z.out,<- f.out,Jov,HX.out];rfl
     obtain⟨k,hk⟩:=exE s.length;rw[<- hk] at Hu;have Hw:=zI (J1s gen number s wc (by omega) hg hnum);have hZ:(strOf s).size=k:=(by rw[Jaa,hk]);have KL:k<=3600:=(by omega);rw[<- hk] at Hw;have Kv:=zI Hv;have Hx:=zI hs;have HK:=zI hk;have Kw:224*q - 224+nl<=X.size:=(by omega);have HZ:=zI hZ;clear hs Hv hk Hu hZ;go_wp2_with fail
     rw[Kv.out];refine Hw.out.mono ?_;rintro e w9 ⟨v,rfl,Hy,Hz⟩;obtain⟨A2,c2,rfl,K⟩:=Jao Hy;have a:=zI (B.out.trans (Hz.mono B.out.size));have Kx:=zI K;have hZ:=HZ.out;have Ky:Hid ((bs.take q).length=q):=zI (by rw[qao,T.out];omega)
     have hJ:=zI (show 3000<k\/wlL gen number s≠bs.take q ->Ja9 gen number bs=none from fun h=>by
      unfold Ja9;rw[<- z.out,qay (by rw[T.out];omega),<- f.out,qay d,<- Hx.out,<- HK.out,qa0 h])
     have Kz:=zI (show ¬ 3000<k ->wlL gen number s=bs.take q ->Ja9 gen number bs=some (s,q) from fun I h2=>by
      unfold Ja9;rw[<- z.out,qay (by rw[T.out];omega),<- f.out,qay d,<- Hx.out,<- HK.out,qay (fun h=>h.elim I (fun h3=>h3 h2))])
     have W:=zI (Jd7 gen number s);rw[<- HK.out] at W;clear Hy K Hz Kw O;obtain⟨N2,Ha⟩:=exE (wlN k);rw[<- Ha] at W ⊢;have KR:Hid (N2<=20):=zI (by rw[Ha];unfold wlN;split<;>omega)
     clear Ha;obtain⟨Z,Hb⟩:=exE (strOf s);rw[<- Hb] at hZ ⊢;have KC:=zI Hb;clear Hb;by_cases H0:3000<k
     · have d7:decide ((3000:Int)<(k:Int))=true:=qaj (by omega)
       go_wp2_with fail
       go_ret2;exact⟨by rw[hJ.out (.inl H0)];rfl,a.out⟩
     have d7:decide ((3000:Int)<(k:Int))=false:=qae (by omega);by_cases H9:N2=q
     · subst H9
       have Ka:=zI (show 1<=N2/\N2<=n/\N2<=bs.length from by rw[T.out];omega);go_wp2_with fail
       go_loopw [87] (fun i wr=>∃j:Nat,j<=N2/\i= .int .i64 (j:Int)/\(∀p,p<j ->(wlL gen number s)[p]? =bs[p]?)/\w9=wr) (fun i _=>N2 - (intOf i).toNat)
       case atStart=>exact⟨0,qaq _,rfl,fun p hp=>by omega,rfl⟩
       case round=>
        obtain⟨j,hj,rfl,u,E⟩:=hrel;subst E;by_cases t:j<N2
        · have Kb:j<bs.length:=by have:=Ka.out;omega
          have Kc:j<(wlL gen number s).length:=by rw[W.out];exact t
          have KS:j<n:=by have:=Ka.out;omega
          obtain⟨b',off',e,y,Hn⟩:=(HS.out.below a.out).get (j:=j) Kb;cases e
          obtain⟨b2,off2,e2,Kd,KD⟩:=Kx.out.get (j:=j) (by rw[qa4];exact Kc);rw[qbq] at KD;subst e2;have Ke:=zI (qah Kb);have Kf:=zI (qah Kc);generalize bs[j]=y1 at*;generalize (wlL gen number s)[j]=y2 at*;have Kg:=zI u;clear u y Kd;by_cases hy:y2=y1
          · subst hy
            go_wp2_with fail
            go_roundw
            case rel=>exact⟨j+1,by omega,by go_num,fun p hp=>by
             by_cases e:p=j
             · subst e;rw[Ke.out,Kf.out]
             · exact Kg.out p (by omega),by first | rfl | trivial⟩
            case measure=>simp[intOf];omega
          · have KT:(y2.toList==y1.toList)=false:=qat.2 (fun e=>hy (bytes_inj e))
            go_wp2_with fail
            go_ret2
            exact⟨by rw[hJ.out (.inr (fun h=>hy (by
             have I:(wlL gen number s)[j]? =(bs.take N2)[j]? :=(by rw[h]);rw[List.getElem?_take,qa0 t,Ke.out,Kf.out] at I;exact qbr I)))];rfl,a.out⟩
        · have KE:j=N2:=by omega
          subst KE
          have KG:=zI (show wlL gen number s=bs.take j from by
           apply qdc;intro p;by_cases hp:p<j
           · rw[u p hp,List.getElem?_take,qa0 hp]
           · rw[qbj (by rw[W.out];omega),List.getElem?_take,qay hp])
          clear u;go_wp2_with fail
          go_ret2;exact⟨by rw[Kz.out H0 KG.out,KC.out];rfl,a.out⟩
     · have d8:((N2:Int)==(q:Int))=false:=by rw[qat];omega
       go_wp2_with fail
       go_ret2;exact⟨by rw[hJ.out (.inr (fun h=>H9 (by have:=congrArg List.length h;rw[W.out,Ky.out] at this;exact this)))];rfl,a.out⟩
def rdL (f:Int ->Option ByteArray) (a k:Nat):List Value:=(List.range k).map fun q=>Value.string (Jav f ((a+q:Nat):Int))
theorem J5i(f:Int ->Option ByteArray)(a k:Nat):rdL f a (k+1)=rdL f a k++[.string (Jav f ((a+k:Nat):Int))]:=by
 unfold rdL;rw[qbw,qbg];rfl
def rdB (f:Int ->Option ByteArray) (a k:Nat):List ByteArray:=(List.range k).map fun q=>Jav f ((a+q:Nat):Int)
def recV (gen:Nat):Nat ->Nat ->List ByteArray ->List (List UInt8)
 | 0,_,_=>[]
 | n+1,num,bs=>if bs=[] then [] else match Ja9 gen num bs with
   | none=>[]
   | some (s,k)=>s::recV gen n (num+1) (bs.drop k)
def logV (gen:Nat) (bs:List ByteArray):List (List UInt8):=recV gen bs.length 0 bs
theorem Jgw{gen num:Nat}{bs:List ByteArray}{s:List UInt8}{k:Nat}(h:Ja9 gen num bs=some (s,k)):1<=k/\k<=bs.length:=by
 unfold Ja9 at h;split at h
 · cases h
 · split at h
   · cases h
   · split at h
     · cases h
     · cases h;omega
theorem Jrd(gen:Nat):∀ (n m num:Nat) (bs:List ByteArray),bs.length<=n ->bs.length<=m ->recV gen n num bs=recV gen m num bs
 | 0,0,_,_,_,_=>rfl
 | 0,m+1,num,bs,h,_=>by
   have:bs=[]:=qa5 (by omega);subst this;simp[recV]
 | n+1,0,num,bs,_,h=>by
   have:bs=[]:=qa5 (by omega);subst this;simp[recV]
 | n + 1,m+1,num,bs,h1,h2=>by
   unfold recV;by_cases e:bs=[]
   · rw[qa0 e,qa0 e]
   · rw[qay e,qay e]
     cases hw:Ja9 gen num bs with
     | none=>rfl
     | some x=>
       obtain⟨s,k⟩:=x;have z:=Jgw hw;show s::_=s::_;rw[Jrd gen n m (num+1) (bs.drop k) (by rw[qa2];omega) (by rw[qa2];omega)]
theorem J5j(gen n num:Nat):recV gen n num []=[]:=by cases n<;>simp[recV]
theorem Jre{gen n num:Nat}{bs:List ByteArray}(h:Ja9 gen num bs=none):recV gen n num bs=[]:=by
 cases n with
 | zero=>rfl
 | succ n=>unfold recV;rw[h];split<;>rfl
theorem Jrf{gen n num:Nat}{bs:List ByteArray}{s:List UInt8}{k:Nat}(hn:bs.length<=n)(h:Ja9 gen num bs=some (s,k)):recV gen n num bs=s::recV gen n (num+1) (bs.drop k):=by
 have z:=Jgw h;cases n with
 | zero=>omega
 | succ n=>
   have e:recV gen (n+1) num bs=s::recV gen n (num+1) (bs.drop k):=by
    show(if bs=[] then [] else _)=_;rw[qay (fun e=>by subst e;simp at z;omega),h]
   rw[e,Jrd gen n (n+1) (num+1) (bs.drop k) (by rw[qa2];omega) (by rw[qa2];omega)]
theorem J8w{w:World}{B:Nat}{e:TypeId}{k n c:Nat}{A:Option Addr}{xs:List Value}(h:w.ownsRow B e k (.slice A n c) n xs):n<=c:=by
 rcases h.2 with⟨e1,e2⟩ | ⟨g,cap,cur,e1,_,_,z,_⟩
 · cases e1;omega
 · cases e1;exact z
theorem Strs.dropC{w:World}{b off n:Nat}{bs:List ByteArray}(h:Strs w (some ⟨b,off,none⟩) n bs)(p:Nat)(hp:p<=n):Strs w (some ⟨b,off+p,none⟩) (n - p) (bs.drop p):=by
 refine⟨⟨fun hne=> ?_⟩,by rw[qa2,h.len],by have:=h.n_le;omega,fun s hs=>h.size s (qc0 hs)⟩
 have x:p<bs.length:=by
  have:bs.drop p≠[]:=fun e=>hne (by rw[e];rfl);rw[Ne,List.drop_eq_nil_iff] at this;omega
 obtain⟨b',off',e,z,_⟩:=h.get x;cases e
 refine⟨b,off+p,rfl,z,fun j u hu=> ?_⟩;rw[List.map_drop,List.getElem?_drop] at hu;have y:p+j<bs.length:=by have:=(qbs.1 hu).1;simpa using this
 obtain⟨b',off',e,_,v⟩:=h.get y;cases e
 rw[qb3,qah y] at hu;cases hu
 rw[show off+p+j=off+(p+j) from by omega];exact v
theorem J5k{F:Nat ->Prop}{g N n0:Nat}{f fl:Int ->Option ByteArray}{ws:List (Int×ByteArray)}(w:World)(h:DkAt w F g N n0 f fl ws)(a k gen:Nat)(hk:1<=k)(ha:a+k<=N)(hk16:k<=16)(hgen:1<=gen)(hg2:gen<18446744073709551616):
  Cs 135 #[g,(a:Int),(k:Int),.int .u64 (gen:Int)] w fun e w'=>∃v,e= .returned (.tuple #[v,(0:Int)])/\w'.ownsRow w.heap.size 9 1 v (logV gen (rdB f a k)).length ((logV gen (rdB f a k)).map fun l=>Value.string (strOf l))/\Below w.heap.size w w':=by
 have hN:=h.size;have HR:=zI (Jqe ⟨g,0,none⟩ k gen w (by omega) hgen);have HD:=zI (fun W (hW:Below w.heap.size w W) j (hj:j<N)=>Jjv (h.below hW) j hj);have A:=zI (fun j=>h.read_size j);clear h hgen;go_enter Tryz.func135,Tryz.ntmps135;go_wp2_with fail
 refine HR.out.mono ?_;rintro e w1 ⟨rfl,hw⟩;subst hw;go_wp2_with fail
 go_loopw [10,23] (fun v j wr=>∃q:Nat,q<=k/\j= .int .i64 (q:Int)/\wr.ownsRow w.heap.size 9 1 v q (rdL f a q)/\Below w.heap.size w wr) (fun _ j _=>k - (intOf j).toNat)
 case atStart=>exact⟨0,qaq _,rfl,qaz _ _ _ _,qaa _ _⟩
 case round=>
  obtain⟨q,hq,rfl,z,r⟩:=hrel;by_cases Kb:q<k
  · have HQ:=zI (HD.out _ r (a+q) (by omega))
    have HS:=zI (J5i f a q);have HA:=zI (show IntKind.i64.wrap ((a:Int)+(q:Int))=((a+q:Nat):Int) from by rw[qbd _ (by omega)];omega);have B:=zI z;have T:=zI r;have HK:=zI (show q+1<=1000000 from by omega);generalize Jav f ((a+q:Nat):Int)=Z at*;obtain⟨aq,hJ⟩:=exE (a+q);rw[<- hJ] at HQ HA;clear z r hJ;have hA:=HA.out;go_wp2_with fail
    refine HQ.out.mono ?_;rintro e w2 ⟨rfl,S⟩;have R:=S.alloc S.size (.cells #[Z] 9);have P:=zI (Sl.new w2 9 w2.heap.size [Z] #[Z] rfl rfl);have O:=zI (show ∀u∈([Z]:List Value),u.oneCell'=true from by intro u hu;rw[qa1.1 hu];rfl);have Ha:=zI (Jaf B.out R);have M:=zI (T.out.trans (R.mono T.out.size));clear S R hA;go_wp2_with (at_builtin;refine Jkv rfl _ _ rfl Ha.out rfl (some ⟨w2.heap.size,0,none⟩) 1 1 [Z] rfl rfl P.out O.out HK.out M.out.size ?_;intro A' c' w5 Hb Hl)
    have Hm:=Jbd Ha.out Hl M.out M.out.size;rw[<- HS.out] at Hb;go_roundw
    case rel=>exact⟨q+1,by omega,by go_num,Hb,Hm⟩
    case measure=>simp[intOf];omega
  · have Hn:q=k:=by omega
    subst Hn;obtain⟨A',c',rfl,L⟩:=Jao z
    have Hc:rdL f a q≠[]:=fun e=>by
     have:=congrArg List.length e;unfold rdL at this;rw[qa4,List.length_range] at this;simp at this;omega
    obtain⟨b,off,rfl,Ho,K⟩:=L.at_ Hc;obtain⟨bs,t⟩:=exE (rdB f a q);have o:bs.length=q:=by rw[t];simp[rdB]
    have Hp:q<=c':=J8w z
    have J:Strs wr (some ⟨b,off,none⟩) q bs:=⟨by
     rw[t];have:(rdB f a q).map Value.string=rdL f a q:=by unfold rdB rdL;rw[qcl];rfl
     rw[this];exact L,o,by unfold maxLen;omega,fun x hx=>by
     rw[t] at hx;unfold rdB at hx;obtain⟨j,_,rfl⟩:=qbn.1 hx;rw[A.out];unfold maxLen;omega⟩
    have Hd:∀x∈bs,x.size=256:=fun x hx=>by
     rw[t] at hx;unfold rdB at hx;obtain⟨j,_,rfl⟩:=qbn.1 hx;exact A.out _
    obtain⟨w1,He⟩:=exE wr;rw[<- He] at J r ⊢;have Hq:=zI J;have Hr:=zI Hd;have Hf:=zI t;have T:=zI r;have i:=zI o;clear z L Hc K r He J Hd t Ho o;go_wp2_with fail
    go_loopw [10,11] (fun v u wr=>∃ (p:Nat) (outs:List (List UInt8)) (Av:Option Addr),p<=q/\v= .slice Av (q - p) (c' - p)/\(p<q ->Av=some ⟨b,off+p,none⟩)/\wr.ownsRow w1.heap.size 9 1 u outs.length (outs.map fun l=>Value.string (strOf l))/\logV gen bs=outs++recV gen q outs.length (bs.drop p)/\outs.length<=p/\Below w1.heap.size w1 wr) (fun v _ _=>(match v with | .slice _ n _=>n | _=>0))
    case atStart=>exact⟨0,[],_,qaq _,rfl,fun _=>rfl,qaz _ _ _ _,by unfold logV;rw[i.out];rfl,qab _,qaa _ _⟩
    case round=>
     obtain⟨p,outs,Av,hp,rfl,I,d,c,Hg,r⟩:=hrel;obtain⟨A3,c3,rfl,Hh⟩:=Jao d;have Y:=zI c;have B:=zI d;have Hi:=zI r;have H:=zI (T.out.trans (r.mono T.out.size));obtain⟨m,hm⟩:=exE outs.length;rw[<- hm] at Hg d B Y ⊢;have HM:=zI hm;by_cases Hs:p<q
     · obtain rfl:=I Hs
       clear I;have d1:decide ((0:Int)<((q - p:Nat):Int))=true:=qaj (by omega);have d2:decide (0<q - p)=true:=qaj (by omega);have Hj:(bs.drop p).length<=16:=by rw[qa2,i.out];omega
       have V:=zI (J1x gen m (some ⟨b,off+p,none⟩) (q - p) (c' - p) (bs.drop p) wr ((Hq.out.below r).dropC p hp) (fun x hx=>Hr.out x (qc0 hx)) (by omega) (by omega) hg2 (by omega));have Ht:=zI (show(bs.drop p).length<=q from by rw[qa2,i.out];omega);clear d c r hm Hh Hj;cases hwv:Ja9 gen m (bs.drop p) with
       | none=>
         rw[hwv] at V;have G:=zI (Jre (n:=q) hwv);unfold J1w at V;dsimp only at V;clear hwv;go_wp2_with fail
         refine V.out.mono ?_;rintro e w6 ⟨rfl,y⟩;have Hu:=zI (Jaf B.out y);have Hv:=zI (H.out.trans (y.mono H.out.size));have E:=zI T.out.size;clear y;go_wp2_with fail
         go_ret2;refine⟨_,rfl,?_,Hv.out⟩;rw[<- Hf.out,Y.out,G.out,qbp,<- HM.out];exact Jde Hu.out E.out
       | some x=>
         obtain⟨s,kk⟩:=x;have U:=Jgw hwv;rw[qa2,i.out] at U;rw[hwv] at V;have Hw:=zI (Jrf Ht.out hwv);unfold J1w at V;dsimp only at V;clear hwv;have Kc:((kk:Int)==0)=false:=by rw[qat];omega
         go_wp2_with fail
         refine V.out.mono ?_;rintro e w6 ⟨rfl,y⟩;obtain⟨Z,hZ⟩:∃Z,Z=strOf s:=⟨_,rfl⟩;rw[<- hZ];have HZ:=zI hZ;have D:=y.alloc y.size (.cells #[.string Z] 9);have P:=zI (Sl.new w6 9 w6.heap.size [.string Z] #[.string Z] rfl rfl);have O:=zI (show ∀u∈([.string Z]:List Value),u.oneCell'=true from by intro u hu;rw[qa1.1 hu];rfl);have Hk:=zI (Jaf B.out D);have C:=zI (Hi.out.trans (D.mono Hi.out.size));have HK:=zI (show m+1<=1000000 from by omega);have Kd:kk<=q - p:=U.2;have Ka:q<=c':=Hp;clear y D hZ;go_wp2_with (first | fail | (at_builtin;refine Jkv rfl _ _ rfl Hk.out rfl (some ⟨w6.heap.size,0,none⟩) 1 1 [.string Z] rfl rfl P.out O.out HK.out C.out.size ?_;intro A' c'' w8 Hx Hy))
         have Hz:=Jbd Hk.out Hy C.out C.out.size;go_roundw
         case rel=>exact⟨p+kk,outs++[s],_,by omega,by rw[Nat.sub_sub,Nat.sub_sub],fun h=>by rw[qay (by omega),qcd],by
          rw[qad,qbg,<- HM.out];show w8.ownsRow _ _ _ _ (m+1) (_++[Value.string (strOf s)]);rw[<- HZ.out];exact Hx,by
          rw[Y.out,Hw.out,qdj,qad,<- HM.out,qas];rfl,by rw[qad,<- HM.out];simp;omega,Hz⟩
         case measure=>simp;omega
     · have H0:p=q:=by omega
       subst H0;have E:=zI T.out.size;have G:=zI (show recV gen p m (bs.drop p)=[] from by rw[qcj (by rw[i.out];exact qab _)];exact J5j _ _ _);have H9:p - p=0:=Nat.sub_self p;clear d c r hm Hh I;rw[H9];go_wp2_with fail
       go_ret2;refine⟨_,rfl,?_,H.out⟩;rw[<- Hf.out,Y.out,G.out,qbp,<- HM.out];exact Jde B.out E.out
theorem Jey(l:List UInt8):(strOf l).data.toList=l:=by unfold strOf;simp
theorem J8x(gen number place of:Nat)(l:List UInt8):(wlBk gen number place of l).drop 32=l++zeros (224 - l.length):=by
 unfold wlBk;rw[qct (by rw[Jj4];omega),qcj (by rw[Jj4];omega),qck]
theorem Kar(gen number place of n:Nat)(r:List UInt8)(h:of<65536):leN (((wlHd gen number place of n++r).drop 18).take 2)=of:=by
 unfold wlHd wlM;have e:([87,76,79,71]++(le 8 gen++(le 4 number++(le 2 place++(le 2 of++(le 2 n++zeros 10)))))++r:List UInt8)=([87,76,79,71]++le 8 gen++le 4 number++le 2 place)++(le 2 of++(le 2 n++zeros 10++r)):=by simp[qas]
 rw[e,qct (by simp),qcj (by simp),qck,qcr (by simp),qap (by simp)];exact Jch (by simpa using h)
theorem hd_n(gen number place of n:Nat)(r:List UInt8)(h:n<65536):leN (((wlHd gen number place of n++r).drop 20).take 2)=n:=by
 unfold wlHd wlM;have e:([87,76,79,71]++(le 8 gen++(le 4 number++(le 2 place++(le 2 of++(le 2 n++zeros 10)))))++r:List UInt8)=([87,76,79,71]++le 8 gen++le 4 number++le 2 place++le 2 of)++(le 2 n++(zeros 10++r)):=by simp[qas]
 rw[e,qct (by simp),qcj (by simp),qck,qcr (by simp),qap (by simp)];exact Jch (by simpa using h)
theorem Kas{gen number place of:Nat}{l:List UInt8}(h:of<65536):fldN (strOf (wlBk gen number place of l)) 18=of:=by
 unfold fldN;rw[Jey];exact Kar gen number place of l.length _ h
theorem bk_n{gen number place of:Nat}{l:List UInt8}(h:l.length<65536):fldN (strOf (wlBk gen number place of l)) 20=l.length:=by
 unfold fldN;rw[Jey];exact hd_n gen number place of l.length _ h
theorem J96{g g' m m' p p' o o':Nat}{l l':List UInt8}(hg:g<18446744073709551616)(hg':g'<18446744073709551616)(hm:m<4294967296)(hm':m'<4294967296)(h:wlBk g m p o l=wlBk g' m' p' o' l'):g=g'/\m=m':=by
 unfold wlBk wlHd wlM at h;simp only[qas] at h;have y:=List.append_inj_right h rfl;have z:=List.append_inj y (by simp);have x:=List.append_inj z.2 (by simp);refine⟨?_,?_⟩
 · have:=congrArg leN z.1
   rwa [Jch (by simpa using hg),Jch (by simpa using hg')] at this
 · have:=congrArg leN x.1
   rwa [Jch (by simpa using hm),Jch (by simpa using hm')] at this
theorem Jvi(n:Nat):1<=wlN n/\224*(wlN n - 1)<=n/\n<=224*wlN n/\(n=0 ->wlN n=1):=by unfold wlN;split<;>omega
theorem Ji7{gen num:Nat}{bs:List ByteArray}{s:List UInt8}{k:Nat}(h:Ja9 gen num bs=some (s,k)):∃b r,bs=b::r/\b=strOf (wlBk gen num 0 (wlN s.length) (wlPt s 0)):=by
 have y:=Jgw h;unfold Ja9 at h;split at h
 · cases h
 · split at h
   · cases h
   · split at h
     · cases h
     · next hc=>
       simp only[not_or,Decidable.not_not] at hc;injection h with h;injection h with x w;rw[x,w] at hc;cases bs with
       | nil=>simp at y;omega
       | cons b r=>
         refine⟨b,r,rfl,?_⟩;have z:(wlL gen num s)[0]? =((b::r).take k)[0]? :=(by rw[hc.2]);rw[List.getElem?_take,qa0 (by omega)] at z;unfold wlL at z;rw[qb3,qde (by have:=Jvi s.length;omega)] at z;exact(qbr z).symm
theorem Jtc(gen num:Nat)(r:List ByteArray):Ja9 gen num (strOf (zeros 256)::r)=none:=by
 cases h:Ja9 gen num (strOf (zeros 256)::r) with
 | none=>rfl
 | some x=>
   obtain⟨s,k⟩:=x;obtain⟨b,r',e,y⟩:=Ji7 h;cases e
   have z:=congrArg (fun b:ByteArray=>b.data.toList.head?) y;simp only[Jey] at z;have w:(zeros 256).head? =some 0:=by rw[show(256:Nat)=255+1 from rfl];rfl
   rw[w] at z;have v:(wlBk gen num 0 (wlN s.length) (wlPt s 0)).head? =some 87:=rfl;rw[v] at z;exact absurd (qbr z) (by decide)
theorem Jtd{gen num g m p o:Nat}{l:List UInt8}(r:List ByteArray)(hg:gen<18446744073709551616)(hg':g<18446744073709551616)(hm:num<4294967296)(hm':m<4294967296)(hne:g≠gen\/m≠num):Ja9 gen num (strOf (wlBk g m p o l)::r)=none:=by
 cases h:Ja9 gen num (strOf (wlBk g m p o l)::r) with
 | none=>rfl
 | some x=>
   obtain⟨s,k⟩:=x;obtain⟨b,r',e,y⟩:=Ji7 h;cases e
   have z:=congrArg (fun b:ByteArray=>b.data.toList) y;simp only[Jey] at z;obtain⟨e1,e2⟩:=J96 hg' hg hm' hm z;omega
theorem J1y(gen num:Nat):Ja9 gen num []=none:=by
 cases h:Ja9 gen num [] with
 | none=>rfl
 | some x=>
   obtain⟨s,k⟩:=x;obtain⟨b,r',e,z⟩:=Ji7 h;cases e
theorem Jna(s:List UInt8):∀q,224*q<=s.length ->((List.range q).flatMap fun p=>wlPt s p++zeros (224 - (wlPt s p).length))=s.take (224*q)
 | 0,_=>by simp
 | q+1,h=>by
   have z:(wlPt s q).length=224:=by unfold wlPt;rw[qao,qa2];omega
   rw[qbw,qav,Jna s q (by omega)];simp only[qau,qbt,qbp,z,Nat.sub_self];rw[show zeros 0=[] from rfl,qbp];unfold wlPt;rw[Nat.mul_succ,List.take_add]
theorem J5l(gen num:Nat)(s:List UInt8):wCat (wlL gen num s)=s++zeros (224*wlN s.length - s.length):=by
 have z:=Jvi s.length;unfold wCat wlL;rw[qdp]
 have e:((List.range (wlN s.length)).flatMap fun p=>(strOf (wlBk gen num p (wlN s.length) (wlPt s p))).data.toList.drop 32)=(List.range (wlN s.length)).flatMap fun p=>wlPt s p++zeros (224 - (wlPt s p).length):=by
  simp only[Jey,J8x]
 rw[e];obtain⟨n,y⟩:∃n,wlN s.length=n+1:=⟨wlN s.length - 1,by omega⟩;rw[y] at z ⊢;rw[qbw,qav,Jna s n (by omega)];simp only[qau,qbt,qbp]
 have x:wlPt s n=s.drop (224*n):=by
  unfold wlPt;rw[qap (by rw[qa2];omega)]
 rw[x,<- qas,qa8,qa2]
 congr 2
 omega
theorem Jxg(gen num:Nat)(s:List UInt8)(rest:List ByteArray)(hs:s.length<=3000):Ja9 gen num (wlL gen num s++rest)=some (s,wlN s.length):=by
 have q:=Jvi s.length;have z:=Jd7 gen num s
 have r:(wlL gen num s++rest).headD ByteArray.empty=strOf (wlBk gen num 0 (wlN s.length) (wlPt s 0)):=by
  have:(wlL gen num s++rest)[0]? =some (strOf (wlBk gen num 0 (wlN s.length) (wlPt s 0))):=by
   rw[qcf (by rw[z];omega)];unfold wlL;rw[qb3,qde (by omega)];rfl
  rw[List.headD_eq_head?_getD,List.head?_eq_getElem?,this];rfl
 have y:wOf (wlL gen num s++rest)=wlN s.length:=by
  unfold wOf;rw[r];exact Kas (by omega)
 have x:(wlL gen num s++rest).take (wlN s.length)=wlL gen num s:=by
  rw[qcr (by rw[z];exact qab _),qap (by rw[z];exact qab _)]
 have u:(wlL gen num s).getLastD ByteArray.empty=strOf (wlBk gen num (wlN s.length - 1) (wlN s.length) (wlPt s (wlN s.length - 1))):=by
  rw[List.getLastD_eq_getLast?,List.getLast?_eq_getElem?,z];unfold wlL;rw[qb3,qde (by omega)];rfl
 have w:(wlPt s (wlN s.length - 1)).length=s.length - 224*(wlN s.length - 1):=by
  unfold wlPt;rw[qao,qa2];omega
 have t:fldN ((wlL gen num s).getLastD ByteArray.empty) 20=s.length - 224*(wlN s.length - 1):=by
  rw[u,bk_n (by rw[w];omega),w]
 have v:wRec (wlL gen num s++rest)=s:=by
  unfold wRec;rw[y,x,t,J5l,show 224*wlN s.length - 224+(s.length - 224*(wlN s.length - 1))=s.length from by omega,qcr (qab _),qap (qab _)]
 unfold Ja9;rw[y,qay (by rw[qad,z];omega),x,t,qay (by omega),v,qay (by simp;omega)]
def layAll (gen:Nat):Nat ->List (List UInt8) ->List ByteArray
 | _,[]=>[]
 | num,s::r=>wlL gen num s++layAll gen (num+1) r
theorem Jrg(gen:Nat):∀ (rs:List (List UInt8)) (n num:Nat) (rest:List ByteArray),(∀s∈rs,s.length<=3000) ->Ja9 gen (num+rs.length) rest=none ->(layAll gen num rs++rest).length<=n ->recV gen n num (layAll gen num rs++rest)=rs
 | [],n,num,rest,_,h,_=>by
   show recV gen n num rest=[];exact Jre (by simpa using h)
 | s::r,n,num,rest,hs,h,hn=>by
   show recV gen n num (wlL gen num s++layAll gen (num+1) r++rest)=_;rw[qas];have z:(wlL gen num s++(layAll gen (num+1) r++rest)).length<=n:=by rw[<- qas];exact hn
   rw[Jrf z (Jxg gen num s _ (hs s (by simp)))];rw[qct (by rw[Jd7];exact qab _),qcj (by rw[Jd7];exact qab _),qck];rw[Jrg gen r n (num+1) rest (fun x hx=>hs x (by simp[hx])) (by rw[<- h];congr 1;simp;omega) (by rw[qad] at z;omega)]
theorem J1z(gen:Nat)(rs:List (List UInt8))(rest:List ByteArray)(hs:∀s∈rs,s.length<=3000)(h:Ja9 gen rs.length rest=none):logV gen (layAll gen 0 rs++rest)=rs:=by
 unfold logV;exact Jrg gen rs _ 0 rest hs (by simpa using h) (qab _)
abbrev lgCs (g fr n gen used recs:Nat):Array Value:=#[g,(fr:Int),(n:Int),.int .u64 (gen:Int),(used:Int),(recs:Int),(0:Int)]
structure LgW (w0:World) (F:Nat ->Prop) (w:World) (gl g N q:Nat) (f:Int ->Option ByteArray) (fr n gen used recs:Nat):Prop where
 dk:DsAt w (grow F w0 w) g N q f
 bx:Bx w gl 286 (lgCs g fr n gen used recs)
 chg:Chg (fun b=>F b\/b=gl) w0 w
 ins:Ins F w0
 nf: ¬ F gl
 lt:gl<w0.heap.size
section
variable {w0 w w':World} {F:Nat ->Prop} {gl g N q fr n gen used recs:Nat} {f:Int ->Option ByteArray}
theorem LgW.start(h:DsAt w F g N q f)(hb:Bx w gl 286 (lgCs g fr n gen used recs))(hn: ¬ F gl):LgW w F w gl g N q f fr n gen used recs:=
 ⟨h.sub (fun _=> .inl) (h.ins.grow (qab _)),hb,Chg.refl _ _,h.ins,hn,hb.lt⟩
theorem LgW.below(h:LgW w0 F w gl g N q f fr n gen used recs)(hb:Below w.heap.size w w'):LgW w0 F w' gl g N q f fr n gen used recs:=
 ⟨(h.dk.below hb).sub (fun _ x=>Jcj x hb.size) (h.ins.grow (qax h.chg.size hb.size)),h.bx.below hb,h.chg.then_below hb,h.ins,h.nf,h.lt⟩
theorem LgW.out(h:LgW w0 F w gl g N q f fr n gen used recs): ¬ grow F w0 w gl:=fun x=>x.elim h.nf fun y=>by have:=h.lt;have:=y.1;omega
theorem LgW.turn{q':Nat}{f':Int ->Option ByteArray}(h:LgW w0 F w gl g N q f fr n gen used recs)(k:DsW w (grow F w0 w) w' g N q' f'):LgW w0 F w' gl g N q' f' fr n gen used recs:=
 ⟨by have:=k.at_;rwa [grow_grow F h.chg.size k.chg.size] at this,h.bx.chg k.chg h.out,h.chg.trans k.chg (fun b hb=>hb.elim (fun x=> .inl (.inl x)) (fun x=> .inr x.1)),h.ins,h.nf,h.lt⟩
theorem LgW.write(h:LgW w0 F w gl g N q f fr n gen used recs)(k:Nat)(hk:k<N)(s:ByteArray)(hs:s.size=256)(hq:q<=900000):
  Cs 28 #[g,(k:Int),s] w fun e w'=>e= .returned (0:Int)/\LgW w0 F w' gl g N (q+2) (setS f k s) fr n gen used recs:=by
 refine((DsW.start h.dk).write k hk s hs hq).mono ?_;rintro e w' ⟨rfl,z⟩;exact⟨rfl,h.turn z⟩
theorem LgW.flush(h:LgW w0 F w gl g N q f fr n gen used recs)(hq:q<=900000):
  Cs 161 #[g] w fun e w'=>e= .returned (0:Int)/\LgW w0 F w' gl g N q f fr n gen used recs:=by
 refine((DsW.start h.dk).flush hq).mono ?_;rintro e w' ⟨rfl,z⟩;exact⟨rfl,h.turn z⟩
theorem LgW.set(h:LgW w0 F w gl g N q f fr n gen used recs)(i:Nat)(u:Value){used' recs':Nat}(he:(lgCs g fr n gen used recs).setIfInBounds i u=lgCs g fr n gen used' recs'):LgW w0 F (w.setCell ⟨gl,i,none⟩ u) gl g N q f fr n gen used' recs':=by
 have z:Chg (fun b=>b=gl) w (w.setCell ⟨gl,i,none⟩ u):=Chg.set w _ _ rfl;refine⟨(h.dk.chg z (fun b hb e=>h.out (by rw[<- e];exact hb))).sub (fun _ x=>Jcj x z.size) (h.ins.grow (qax h.chg.size z.size)),he ▸ h.bx.set i u,h.chg.trans z (fun b e=> .inl (.inr e)),h.ins,h.nf,h.lt⟩
theorem LgW.setUsed(h:LgW w0 F w gl g N q f fr n gen used recs)(u:Nat):LgW w0 F (w.setCell ⟨gl,4,none⟩ (u:Int)) gl g N q f fr n gen u recs:=h.set 4 _ rfl
theorem LgW.setRecs(h:LgW w0 F w gl g N q f fr n gen used recs)(r:Nat):LgW w0 F (w.setCell ⟨gl,5,none⟩ (r:Int)) gl g N q f fr n gen used r:=h.set 5 _ rfl
theorem LgW.bad0(h:LgW w0 F w gl g N q f fr n gen used recs):LgW w0 F (w.setCell ⟨gl,6,none⟩ (0:Int)) gl g N q f fr n gen used recs:=h.set 6 _ rfl
theorem LgW.cells(h:LgW w0 F w gl g N q f fr n gen used recs):w.cell? ⟨gl,0,none⟩=some (.pointer (some ⟨g,0,none⟩))/\w.cell? ⟨gl,1,none⟩=some (.int .i64 (fr:Int))/\w.cell? ⟨gl,2,none⟩=some (.int .i64 (n:Int))/\w.cell? ⟨gl,3,none⟩=some (.int .u64 (gen:Int))/\w.cell? ⟨gl,4,none⟩=some (.int .i64 (used:Int))/\w.cell? ⟨gl,5,none⟩=some (.int .i64 (recs:Int))/\w.cell? ⟨gl,6,none⟩=some (.int .i64 0):=
 ⟨h.bx.at_ 0 rfl,h.bx.at_ 1 rfl,h.bx.at_ 2 rfl,h.bx.at_ 3 rfl,h.bx.at_ 4 rfl,h.bx.at_ 5 rfl,h.bx.at_ 6 rfl⟩
end
def Jb9 (f:Int ->Option ByteArray) (a:Nat):List ByteArray ->Int ->Option ByteArray
 | []=>f
 | b::r=>Jb9 (setS f (a:Int) b) (a+1) r
theorem Jlq:∀ (bs:List ByteArray) (f:Int ->Option ByteArray) (a:Nat) (b:ByteArray),Jb9 f a (bs++[b])=setS (Jb9 f a bs) ((a+bs.length:Nat):Int) b
 | [],f,a,b=>rfl
 | c::r,f,a,b=>by
   show Jb9 (setS f (a:Int) c) (a+1) (r++[b])=setS (Jb9 (setS f (a:Int) c) (a+1) r) _ b;rw[Jlq r]
   congr 2
   simp only[qa3];omega
theorem Jez:∀ (bs:List ByteArray) (f:Int ->Option ByteArray) (a:Nat) (z:Int),z<(a:Int)\/((a+bs.length:Nat):Int)<=z ->Jb9 f a bs z=f z
 | [],_,_,_,_=>rfl
 | b::r,f,a,z,h=>by
   show Jb9 (setS f (a:Int) b) (a+1) r z=f z;simp only[qa3] at h;rw[Jez r _ _ z (by omega)];unfold setS;rw[qay (by omega)]
theorem Jnb:∀ (bs:List ByteArray) (f:Int ->Option ByteArray) (a j:Nat) (hj:j<bs.length),Jb9 f a bs ((a+j:Nat):Int)=some bs[j]
 | b::r,f,a,0,_=>by
   show Jb9 (setS f (a:Int) b) (a+1) r _=_;rw[Jez r _ _ _ (by omega)];unfold setS;rw[qa0 (by omega)];rfl
 | b::r,f,a,j+1,hj=>by
   show Jb9 (setS f (a:Int) b) (a+1) r _=_;rw[show a+(j+1)=a+1+j from by omega,Jnb r _ (a+1) j (by simpa using hj)];rfl
def J10 (gen:Nat) (b:ByteArray):Prop:=b=strOf (zeros 256)\/∃g m p o l,b=strOf (wlBk g m p o l)/\g<gen/\m<65536
theorem J10.whole{gen num:Nat}{rest:List ByteArray}(h:∀b∈rest,J10 gen b)(hg:gen<18446744073709551616)(hn:num<65536):Ja9 gen num rest=none:=by
 cases rest with
 | nil=>exact J1y gen num
 | cons b r=>
   rcases h b (by simp) with e | ⟨g,m,p,o,l,e,z,y⟩
   · rw[e];exact Jtc gen num r
   · rw[e];exact Jtd r hg (by omega) (by omega) (by omega) (.inl (by omega))
theorem Jfj(gen:Nat)(s:List UInt8):∀ (rs:List (List UInt8)) (num:Nat),layAll gen num (rs++[s])=layAll gen num rs++wlL gen (num+rs.length) s
 | [],num=>by
   show wlL gen num s++[]=[]++wlL gen (num+0) s
   simp
 | x::r,num=>by
   show wlL gen num x++layAll gen (num+1) (r++[s])=(wlL gen num x++layAll gen (num+1) r)++_;rw[Jfj gen s r,qas]
   congr 3
   simp only[qa3];omega
theorem Jrh(gen:Nat):∀ (rs:List (List UInt8)) (num:Nat),rs.length<=(layAll gen num rs).length
 | [],_=>qab _
 | x::r,num=>by
   show _<=(wlL gen num x++layAll gen (num+1) r).length;have:=Jrh gen r (num+1);have:=Jvi x.length;rw[qad,Jd7,qa3];omega
theorem Jjk(gen:Nat):∀ (rs:List (List UInt8)) (num:Nat),num+rs.length<=65536 ->∀b∈layAll gen num rs,J10 (gen+1) b
 | [],_,_,b,hb=>by simp[layAll] at hb
 | x ::r,num,hn,b,hb=>by
   rw[qa3] at hn;rcases qbe.1 (show b∈wlL gen num x++layAll gen (num+1) r from hb) with hb | hb
   · unfold wlL at hb
     obtain⟨p,_,e⟩:=qbn.1 hb;exact .inr ⟨gen,num,p,_,_,e.symm,by omega,by omega⟩
   · exact Jjk gen r (num+1) (by omega) b hb
theorem Jhn(f:Int ->Option ByteArray)(a k:Nat):(rdB f a k).length=k:=by simp[rdB]
structure Jda (f:Int ->Option ByteArray) (a gen:Nat) (rs:List (List UInt8)):Prop where
 ex:∃rest,rdB f a 16=layAll gen 0 rs++rest/\∀b∈rest,J10 gen b
 short:∀s∈rs,s.length<=3000
section
variable {f f':Int ->Option ByteArray} {a gen:Nat} {rs:List (List UInt8)}
theorem Jda.used(h:Jda f a gen rs):(layAll gen 0 rs).length<=16:=by
 obtain⟨rest,e,_⟩:=h.ex;have:=congrArg List.length e;rw[Jhn,qad] at this;omega
theorem Jda.few(h:Jda f a gen rs):rs.length<=16:=qax (Jrh gen rs 0) h.used
theorem Jda.read(h:Jda f a gen rs)(hg:gen<18446744073709551616):logV gen (rdB f a 16)=rs:=by
 obtain⟨rest,e,z⟩:=h.ex;rw[e];exact J1z gen rs rest h.short (J10.whole z hg (by have:=h.few;omega))
theorem Jda.far(h:Jda f a gen rs)(hf:∀q,q<16 ->f' ((a+q:Nat):Int)=f ((a+q:Nat):Int)):Jda f' a gen rs:=by
 obtain⟨rest,e,z⟩:=h.ex;refine⟨⟨rest,?_,z⟩,h.short⟩;rw[<- e];unfold rdB;refine qcv fun q hq=> ?_;unfold Jav;rw[hf q (qce.1 hq)]
theorem Jda.next(h:Jda f a gen rs):Jda f a (gen+1) []:=by
 obtain⟨rest,e,y⟩:=h.ex;refine⟨⟨rdB f a 16,rfl,fun b z=> ?_⟩,fun s hs=>by cases hs⟩;rw[e] at z;rcases qbe.1 z with z | z
 · exact Jjk gen rs 0 (by have:=h.few;omega) b z
 · rcases y b z with e | ⟨g,m,p,o,l,e,w,x⟩
   · exact .inl e
   · exact .inr ⟨g,m,p,o,l,e,by omega,x⟩
theorem Jda.zero(hf:∀q,q<16 ->Jav f ((a+q:Nat):Int)=strOf (zeros 256)):Jda f a gen []:=by
 refine⟨⟨rdB f a 16,rfl,fun b hb=> ?_⟩,fun s hs=>by cases hs⟩;unfold rdB at hb;obtain⟨q,z,e⟩:=qbn.1 hb;exact .inl (by rw[<- e];exact hf q (qce.1 z))
theorem J5m(f:Int ->Option ByteArray)(a u n:Nat)(bs:List ByteArray)(h:u+bs.length<=n):rdB (Jb9 f (a+u) bs) a n=(rdB f a n).take u++(bs++(rdB f a n).drop (u+bs.length)):=by
 apply qc7
 · rw[Jhn,qad,qad,qao,qa2,Jhn]
   omega
 · intro q z s
   rw[Jhn] at z;have w:(rdB (Jb9 f (a+u) bs) a n)[q]'(by rw[Jhn];exact z)=Jav (Jb9 f (a+u) bs) ((a+q:Nat):Int):=by simp[rdB]
   rw[w];have x:∀ (j:Nat) (hj:j<n),(rdB f a n)[j]'(by rw[Jhn];exact hj)=Jav f ((a+j:Nat):Int):=fun j hj=>by simp[rdB]
   have y:((rdB f a n).take u).length=u:=by rw[qao,Jhn];omega
   by_cases v:q<u
   · rw[qdn (by rw[y];exact v),List.getElem_take,x q z]
     unfold Jav;rw[Jez _ _ _ _ (by omega)]
   · rw[List.getElem_append_right (by rw[y];omega)]
     simp only[y];by_cases t:q<u+bs.length
     · rw[qdn (by omega)]
       have:=Jnb bs f (a+u) (q - u) (by omega);rw[show a+u+(q - u)=a+q from by omega] at this;unfold Jav;rw[this];rfl
     · rw[List.getElem_append_right (by omega),List.getElem_drop,x _ (by omega)]
       unfold Jav;rw[Jez _ _ _ _ (by omega)];rw[show u+bs.length+(q - u - bs.length)=q from by omega]
theorem Jda.put(h:Jda f a gen rs)(s:List UInt8)(hs:s.length<=3000)(hf:(layAll gen 0 rs).length+wlN s.length<=16):Jda (Jb9 f (a+(layAll gen 0 rs).length) (wlL gen rs.length s)) a gen (rs++[s]):=by
 obtain⟨rest,e,y⟩:=h.ex;refine⟨⟨rest.drop (wlN s.length),?_,fun b hb=>y b (qc0 hb)⟩,fun x z=> ?_⟩
 · rw[J5m _ _ _ _ _ (by rw[Jd7];exact hf),e,Jfj,qa7,List.take_left',qas,Jd7]
   · congr 2
     rw[<- qdj,List.drop_left'];rfl
   · rfl
 · rcases qbe.1 z with z | z
   · exact h.short x z
   · rw[qa1.1 z];exact hs
end
