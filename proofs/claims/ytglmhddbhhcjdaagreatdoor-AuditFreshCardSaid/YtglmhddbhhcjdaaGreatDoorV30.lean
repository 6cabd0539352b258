/-
  Several texts in one: Sup, Supp, Supg, Supw, Dks.
-/
import Derived.Test.YtglmhddbhhcjdaaGreatDoorV27
import Derived.Test.YtglmhddbhhcjdaaGreatDoorV29
set_option maxRecDepth 100000
set_option linter.unusedSimpArgs false
set_option maxHeartbeats 4000000
namespace Go.Proofs.YtglmhddbhhcjdaaGreatDoor
open Go.RowKit Go.Maps
theorem Jod(N:Nat)(w:World)(h1:64<=N)(h2:N<=4096):
  Calls Tryz.prog 35 #[.int .i64 (N:Int)] w fun e w'=>e= .returned (.tuple #[.agg #[.int .i64 (N:Int),.int .i64 2,.int .i64 18,.int .i64 (28+N / 200:Nat),.int .i64 (N / 200+10:Nat),.int .i64 (38+2*(N / 200):Nat),.int .i64 ((N - (38+2*(N / 200))) / 2:Nat)],.int .i64 0])/\Below w.heap.size w w':=by
 have d1:decide ((N:Int)<64)=false:=qae (by omega);have d2:decide ((4096:Int)<(N:Int))=false:=qae (by omega);go_enter Tryz.func35,Tryz.ntmps35;go_wp2_with fail
 have z:(((N:Int) - (18+((N:Int) / 200+10)+((N:Int) / 200+10))) / 2)=(((N - (38+2*(N / 200))) / 2:Nat):Int):=by omega
 have y:(18+((N:Int) / 200+10))=((28+N / 200:Nat):Int):=by omega
 have x:(18+((N:Int) / 200+10)+((N:Int) / 200+10))=((38+2*(N / 200):Nat):Int):=by omega
 have u:((N:Int) / 200+10)=((N / 200+10:Nat):Int):=by omega
 rw[z,x,y,u];generalize ((N - (38+2*(N / 200))) / 2:Nat)=R;generalize (38+2*(N / 200):Nat)=D;generalize (28+N / 200:Nat)=CB;generalize (N / 200+10:Nat)=CT;exact qa7 (v:= .tuple #[.agg #[(N:Int),(2:Int),(18:Int),(CB:Int),(CT:Int),(D:Int),(R:Int)],(0:Int)]) (by simp[results,Tryz.results35,go_sem]) rfl ⟨rfl,((qaa _ _).alloc (qab _) _).alloc (by simp) _⟩
def suM:List UInt8:=[83,69,68,73,77,69,78,84]
def Ja8 (gen blocks n:Nat):List UInt8:=le 8 gen++(le 8 (u64 blocks)++le 8 (u64 n))++zeros 220
def suB (gen blocks n:Nat):List UInt8:=(suM++Ja8 gen blocks n)++crcB (suM++Ja8 gen blocks n)
theorem Jz0(gen blocks n:Nat):(suB gen blocks n).length=256:=by simp[suB,suM,Ja8]
theorem Jz1(gen blocks n:Nat)(w:World)(hg:1<=gen)(hg2:gen<18446744073709551616)(h1:64<=blocks)(h2:blocks<=4096)(hn:n<=40000):
  Cs 276 #[.agg #[.int .u64 (gen:Int),(blocks:Int),(n:Int)]] w (RB w (.tuple #[(strOf (suB gen blocks n)),(0:Int)])):=by
 have i:=(qaa w.heap.size w).alloc (qab _) (.cells #[.int .u64 (gen:Int),(blocks:Int),(n:Int)] 202);have h:=Bx.new w 202 #[.int .u64 (gen:Int),(blocks:Int),(n:Int)];have O:=zI h;have g:=zI i;have N:=zI (fun W=>Jod blocks W h1 h2);have d1:((gen:Int)==0)=false:=by rw[qaw];omega
 have d2:decide ((n:Int)<0)=false:=qae (by omega);have d3:decide ((40000:Int)<(n:Int))=false:=qae (by omega);clear i h;go_enter Tryz.func276,Tryz.ntmps276;go_wp2_with fail
 refine(N.out _).mono ?_;rintro e w2 ⟨rfl,s⟩;have y:=O.out.below s;have M:=y.lt;have s0:=y.at_ 0 (v:= .int .u64 (gen:Int)) rfl;have s1:=y.at_ 1 (v:= (blocks:Int)) rfl;have s2:=y.at_ 2 (v:= (n:Int)) rfl;go_upto_region 4 with fail
 have r:=(qaa w2.heap.size w2).alloc (qab _) (.cells #[.int .i64 (blocks:Int),.int .i64 2,.int .i64 18,.int .i64 (28+(blocks:Int) / 200),.int .i64 ((blocks:Int) / 200+10),.int .i64 (38+2*((blocks:Int) / 200)),.int .i64 (((blocks - (38+2*(blocks / 200)):Nat):Int) / 2)] 64);obtain⟨w3,f⟩:∃w3,w3=w2.alloc (.cells #[.int .i64 (blocks:Int),.int .i64 2,.int .i64 18,.int .i64 (28+(blocks:Int) / 200),.int .i64 ((blocks:Int) / 200+10),.int .i64 (38+2*((blocks:Int) / 200)),.int .i64 (((blocks - (38+2*(blocks / 200)):Nat):Int) / 2)] 64):=⟨_,rfl⟩;rw[<- f] at r ⊢;have d:=zI (y.below r);have c:=zI (g.out.trans ((s.trans (r.mono s.size)).mono g.out.size));clear f r s y s0 s1 s2 M;have P0:=PkAt.new w3 w3.heap.size (qab _);have x:=(qaa w3.heap.size w3).alloc (qab _) (.cells #[.int .i64 0,.slice none 0 0] 281);obtain⟨w4,q⟩:∃w4,w4=w3.alloc (.cells #[.int .i64 0,.slice none 0 0] 281):=⟨_,rfl⟩;have L:=zI q;have K:w4.heap.size=w3.heap.size+1:=by rw[q];simp
 rw[<- q] at P0 x;have b:=zI (d.out.below x);have s0:=b.out.at_ 0 (v:= .int .u64 (gen:Int)) rfl;have u:=(qaa w4.heap.size w4).alloc (qab _) (.cells #[.int .u64 (gen:Int)] 55);have J:=zI (Jh0 w3.heap.size w3.heap.size (some ⟨w4.heap.size,0,none⟩) 1 1 [gen] [] _ (P0.below u) (Jha.new _ (by decide) (by omega)) (Sl.new w4 55 w4.heap.size [.int .u64 (gen:Int)] #[.int .u64 (gen:Int)] rfl rfl) rfl (by simp) (qat x.size u.size));have I:=zI (c.out.trans ((x.trans (u.mono x.size)).mono c.out.size));have H:=zI (b.out.below u);clear q P0 x u;go_upto_region 5 with fail
 rw[<- L.out];go_wp2_with fail
 rw[<- K];refine J.out.mono ?_;rintro e w6 ⟨rfl,p,l⟩;have z:w.heap.size<w3.heap.size:=d.out.lt;have o:=l.below (B':=w3.heap.size) (qab _) (qab _) (by simp;omega);have a:=zI (show Bx w6 w.heap.size 202 #[.int .u64 (gen:Int),(blocks:Int),(n:Int)] from⟨(o.block _ z).trans H.out.blk⟩);have Z:=zI (I.out.trans (o.mono (qcx z)));have Hc:=o.size;have s1:=a.out.at_ 1 (v:= (blocks:Int)) rfl;have s2:=a.out.at_ 2 (v:= (n:Int)) rfl;have Y:w3.heap.size<w6.heap.size:=p.lt;have m:=(qaa w6.heap.size w6).alloc (qab _) (.cells #[(blocks:Int),(n:Int)] 3);have G:=zI (show([]:List UInt8)++[gen].flatMap (le 8)=le 8 gen from by simp);rw[G.out] at p;have F:=zI (Jnw w3.heap.size w3.heap.size (some ⟨w6.heap.size,0,none⟩) 2 2 [(blocks:Int),(n:Int)] (le 8 gen) _ (p.below m) (Jha.new _ (by decide) Y) (Sl.new w6 3 w6.heap.size [(blocks:Int),(n:Int)] #[(blocks:Int),(n:Int)] rfl rfl) rfl (by simp) (qat (qcx Y) m.size));have E:=zI (Z.out.trans (m.mono Z.out.size));clear p l o m s0;go_wp2_with fail
 refine F.out.mono ?_;rintro e w8 ⟨rfl,t,k⟩;have V:=zI (show le 8 gen++([(blocks:Int),(n:Int)].flatMap fun v=>le 8 (u64 v))=le 8 gen++(le 8 (u64 blocks)++le 8 (u64 n)) from by simp);rw[V.out] at t;have U:=k.below (B':=w3.heap.size) (qab _) (qab _) (by simp;omega);have D:=zI (E.out.trans (U.mono (qcx z)));have C:=zI (Jt0 w3.heap.size w3.heap.size 244 _ w8 t (by simp) (by omega) (qcx t.lt));have B:w3.heap.size<=w8.heap.size:=qcx t.lt;clear t k U;go_wp2_with fail
 refine C.out.mono ?_;rintro e w9 ⟨rfl,T,j⟩;have S:=j.below (B':=w3.heap.size) (qab _) (qab _) B;have R:=zI (D.out.trans (S.mono (qcx z)));have P:=zI (Jnx _ _ _ w9 T);have A:=zI (show le 8 gen++(le 8 (u64 blocks)++le 8 (u64 n))++zeros (244 - (le 8 gen++(le 8 (u64 blocks)++le 8 (u64 n))).length)=Ja8 gen blocks n from by simp[Ja8]);rw[A.out] at P;clear T j S;go_wp2_with fail
 refine P.out.mono ?_;rintro e wa ⟨rfl,hw⟩;subst hw;have hJ:=zI (Jvx (suM++Ja8 gen blocks n) w9 (by simp[suM,Ja8]));have Hd:(strOf (Ja8 gen blocks n)).size=244:=by rw[Jab];simp[Ja8]
 have Ha:=zI (show(⟨#[83,69,68,73,77,69,78,84]⟩:ByteArray)++strOf (Ja8 gen blocks n)=strOf (suM++Ja8 gen blocks n) from by apply Ja7;simp[strOf,suM]);go_wp2_with fail
 rw[Ha.out];refine hJ.out.mono ?_;rintro e wb ⟨rfl,Hb⟩;go_wp2_with fail
 go_ret2;exact⟨rfl,R.out.trans (Hb.mono R.out.size)⟩
theorem Jh9(m n:Nat):zeros m++zeros n=zeros (m+n):=by unfold zeros;rw[List.replicate_append_replicate]
theorem J93:Jbn 4294967295 (zeros 63)=870118205:=by decide+kernel
theorem J94:Jbn 870118205 (zeros 63)=3892639057:=by decide+kernel
theorem J95:Jbn 3892639057 (zeros 63)=3781187155:=by decide+kernel
theorem J96:Jbn 3781187155 (zeros 63)=379417283:=by decide+kernel
theorem Jhe(x:Int)(a b:List UInt8):Jbn x (a++b)=Jbn (Jbn x a) b:=by simp[Jbn]
theorem crcz:Jfi (zeros 252)=3915550012:=by
 have e:zeros 252=zeros 63++(zeros 63++(zeros 63++zeros 63)):=by rw[Jh9,Jh9,Jh9]
 have e0:bits BinOp.xor IntKind.u32 0 4294967295=4294967295:=by decide+kernel
 unfold Jfi;rw[e,Jhe,Jhe,Jhe,e0,J93,J94,J95,J96];decide+kernel
theorem Jz2:zeros 4≠crcB (zeros 252):=by
 unfold crcB;rw[crcz];decide+kernel
theorem J35(w:World):
  Cs 210 #[(strOf (zeros 256))] w (RB w (.tuple #[.agg #[.int .u64 0,(0:Int),(0:Int)],(7:Int)])):=by
 have x:=(qaa w.heap.size w).alloc (qab _) (.cells #[.int .u64 0,(0:Int),(0:Int)] 202);have u:=Bx.new w 202 #[.int .u64 0,(0:Int),(0:Int)];obtain⟨w1,t⟩:=exE (w.alloc (.cells #[.int .u64 0,(0:Int),(0:Int)] 202));rw[<- t] at x u;have p:=zI t;have o:=zI u;have r:=zI x;clear t x u;have l:=zI (Jp5 (zeros 252) (zeros 4) w1 rfl (by simp));rw[Jh9,show Jyu (zeros 252) (zeros 4)= .tuple #[ByteArray.empty,(7:Int)] from qav Jz2] at l;have j:(strOf (zeros (252+4))).size=256:=by rw[Jab,Jcj]
 have k:=zI (show strOf (zeros 256)=strOf (zeros (252+4)) from rfl);rw[k.out];clear k;generalize strOf (zeros (252+4))=S at*;go_enter Tryz.func210,Tryz.ntmps210;go_upto_region 1 with fail
 rw[<- p.out];go_wp2_with fail
 refine l.out.mono ?_;rintro e w2 ⟨rfl,n⟩;have z:=zI (o.out.below n);have m:=zI (r.out.trans (n.mono r.out.size));clear n;have r0:=z.out.at_ 0 rfl;have r1:=z.out.at_ 1 rfl;have r2:=z.out.at_ 2 rfl;have f0:=z.out.free 0;have f1:=z.out.free 1;have f2:=z.out.free 2;go_wp2_with fail
 obtain⟨w9,s⟩:=exE (putC w2 w.heap.size 0 [.int .u64 0,(0:Int),(0:Int)]);have y:=Ja1 z.out [.int .u64 0,(0:Int),(0:Int)] rfl;have q:=Jao (B:=w.heap.size) [.int .u64 0,(0:Int),(0:Int)] (qab _) w2 0;rw[<- s] at y q;simp only[putC,qa9,Nat.reduceAdd] at s;rw[<- s];have q0:=y.at_ 0 rfl;have q1:=y.at_ 1 rfl;have q2:=y.at_ 2 rfl;exact qa7 (v:= .tuple #[.agg #[.int .u64 0,(0:Int),(0:Int)],(7:Int)]) (by simp[results,Tryz.results210,go_sem,q0,q1,q2]) rfl ⟨rfl,m.out.trans q⟩
theorem J7q(gen blocks n:Nat)(w:World)(hg:1<=gen)(hg2:gen<18446744073709551616)(h1:64<=blocks)(h2:blocks<=4096)(hn:n<=40000):
  Cs 210 #[(strOf (suB gen blocks n))] w (RB w (.tuple #[.agg #[.int .u64 (gen:Int),(blocks:Int),(n:Int)],(0:Int)])):=by
 have r:=(qaa w.heap.size w).alloc (qab _) (.cells #[.int .u64 0,(0:Int),(0:Int)] 202);have q:=Bx.new w 202 #[.int .u64 0,(0:Int),(0:Int)];obtain⟨w1,p⟩:=exE (w.alloc (.cells #[.int .u64 0,(0:Int),(0:Int)] 202));rw[<- p] at r q;have d:=zI p;have c:=zI q;have m:=zI r;clear p r q;have h:=zI (Jp5 (suM++Ja8 gen blocks n) (crcB (suM++Ja8 gen blocks n)) w1 (by simp) (by simp[suM,Ja8]));rw[show Jyu (suM++Ja8 gen blocks n) (crcB (suM++Ja8 gen blocks n))= .tuple #[(strOf (suM++Ja8 gen blocks n)),(0:Int)] from qa2 rfl] at h;have M:=zI (fun W=>Jz1 gen blocks n W hg hg2 h1 h2 hn);have l:=zI (show(suM++Ja8 gen blocks n)++crcB (suM++Ja8 gen blocks n)=suB gen blocks n from rfl);rw[l.out] at h;have L:(strOf (suB gen blocks n)).size=256:=by rw[Jab,Jz0]
 have J:(strOf (suM++Ja8 gen blocks n)).extract 8 252=strOf (Ja8 gen blocks n):=by
  have:=Jit suM (Ja8 gen blocks n);rw[show suM.length=8 from rfl,show(Ja8 gen blocks n).length=244 from by simp[Ja8]] at this;exact this
 have O:(strOf (suM++Ja8 gen blocks n)).size=252:=by rw[Jab];simp[suM,Ja8]
 have N:=zI (fun (W:World) (f:Below w1.heap.size w1 W)=>ReadW.from_ w1 f (Ja8 gen blocks n) (by simp[Ja8]));have b:=zI (show Ja8 gen blocks n=le 8 gen++(le 8 (u64 blocks)++(le 8 (u64 n)++zeros 220)) from by simp[Ja8]);have a:=zI hg2;generalize strOf (suM++Ja8 gen blocks n)=X at*;generalize strOf (suB gen blocks n)=S at*;clear hg2 l;go_enter Tryz.func210,Tryz.ntmps210;go_upto_region 1 with fail
 rw[<- d.out];go_wp2_with fail
 refine h.out.mono ?_;rintro e w2 ⟨rfl,f⟩;have Z:=zI (N.out _ f);clear f N h;go_wp2_with fail
 refine Z.out.mono ?_;rintro e w3 ⟨g,rfl,y⟩;rw[b.out] at y;have K:=zI (ReadW.word gen _ y a.out (by simp));clear y;go_wp2_with fail
 refine K.out.mono ?_;rintro e w4 ⟨rfl,y⟩;have Y:=zI (ReadW.int (blocks:Int) _ y (by omega) (by simp));clear y;go_wp2_with fail
 refine Y.out.mono ?_;rintro e w5 ⟨rfl,y⟩;have V:=zI (ReadW.int (n:Int) _ y (by omega) (by simp));clear y;go_wp2_with fail
 refine V.out.mono ?_;rintro e w6 ⟨rfl,y⟩;have U:=zI (c.out.below y.below);have k:=zI (m.out.trans (y.below.mono m.out.size));have x:=(qaa w6.heap.size w6).alloc (qab _) (.cells #[.int .u64 (gen:Int),(blocks:Int),(n:Int)] 202);have T:=zI (U.out.below x);have R:=zI (Bx.new w6 202 #[.int .u64 (gen:Int),(blocks:Int),(n:Int)]);have j:=zI (k.out.trans (x.mono k.out.size));clear y x;go_wp2_with fail
 refine(M.out _).mono ?_;rintro e w8 ⟨rfl,u⟩;have z:=zI (T.out.below u);have P:=zI (j.out.trans (u.mono j.out.size));have t:=R.out.below u;have s0:=t.at_ 0 (v:= .int .u64 (gen:Int)) rfl;have s1:=t.at_ 1 (v:= (blocks:Int)) rfl;have s2:=t.at_ 2 (v:= (n:Int)) rfl;have r0:=z.out.at_ 0 rfl;have r1:=z.out.at_ 1 rfl;have r2:=z.out.at_ 2 rfl;have f0:=z.out.free 0;have f1:=z.out.free 1;have f2:=z.out.free 2;clear u t;go_wp2_with fail
 obtain⟨w9,o⟩:=exE (putC w8 w.heap.size 0 [.int .u64 (gen:Int),(blocks:Int),(n:Int)]);have s:=Ja1 z.out [.int .u64 (gen:Int),(blocks:Int),(n:Int)] rfl;have i:=Jao (B:=w.heap.size) [.int .u64 (gen:Int),(blocks:Int),(n:Int)] (qab _) w8 0;rw[<- o] at s i;simp only[putC,qa9,Nat.reduceAdd] at o;rw[<- o];have q0:=s.at_ 0 rfl;have q1:=s.at_ 1 rfl;have q2:=s.at_ 2 rfl;exact qa7 (v:= .tuple #[.agg #[.int .u64 (gen:Int),(blocks:Int),(n:Int)],(0:Int)]) (by simp[results,Tryz.results210,go_sem,q0,q1,q2]) rfl ⟨rfl,P.out.trans i⟩
theorem Jz3{w:World}{F:Nat ->Prop}{g N n:Nat}{f fl:Int ->Option ByteArray}{ws:List (Int×ByteArray)}(gen bytes:Nat)(h:DkAt w F g N n f fl ws)(hg:1<=gen)(hg2:gen<18446744073709551616)(h1:64<=N)(h2:N<=4096)(hb:bytes<=40000)(hn:n+ws.length+2<=1000000):
  Cs 248 #[g,.agg #[.int .u64 (gen:Int),(N:Int),(bytes:Int)]] w fun e w'=>e= .returned (0:Int)/\
   DkW w F w' g N (n+ws.length+2) (setS f ((gen % 2:Nat):Int) (strOf (suB gen N bytes))) (setS (Jh6 fl ws) ((gen % 2:Nat):Int) (strOf (suB gen N bytes))) []:=by
 have y:=(qaa w.heap.size w).alloc (qab _) (.cells #[.int .u64 (gen:Int),(N:Int),(bytes:Int)] 202);have u:=Bx.new w 202 #[.int .u64 (gen:Int),(N:Int),(bytes:Int)];obtain⟨w1,t⟩:=exE (w.alloc (.cells #[.int .u64 (gen:Int),(N:Int),(bytes:Int)] 202));have q:=zI t;rw[<- t] at y u;have p:=zI (DkW.start (h.below y));have o:=zI y;have r:=zI h.ins;have c:=zI (fun W=>Jz1 gen N bytes W hg hg2 h1 h2 hb);have m:=zI (show(strOf (suB gen N bytes)).size=256 from by rw[Jab,Jz0]);generalize strOf (suB gen N bytes)=S at*;have z:=zI u;have b:=zI h.ws;clear t y u hg2 h;go_enter Tryz.func248,Tryz.ntmps248;go_upto_region 1 with fail
 rw[<- q.out];have s0:=z.out.at_ 0 (v:= .int .u64 (gen:Int)) rfl;have s1:=z.out.at_ 1 (v:= (N:Int)) rfl;have s2:=z.out.at_ 2 (v:= (bytes:Int)) rfl;go_wp2_with fail
 refine(c.out _).mono ?_;rintro e w2 ⟨rfl,s⟩;have l:=zI (p.out.below s);have a:=zI (z.out.below s);have k:=zI (l.out.flush (by omega));clear s0 s1 s2 s;go_wp2_with fail
 refine k.out.mono ?_;rintro e w3 ⟨rfl,x⟩;have s0:=(z.out.chg x.chg r.out.not).at_ 0 (v:= .int .u64 (gen:Int)) rfl;have j:=zI (x.write (gen % 2) (by omega) S m.out (by omega) (by simp));have i:=zI (show((gen:Int) % 2)=((gen % 2:Nat):Int) from by omega);clear x;go_wp2_with fail
 rw[i.out];refine j.out.mono ?_;rintro e w4 ⟨rfl,x⟩;have d:=zI (x.flush (by simp;omega));clear x;go_wp2_with fail
 refine d.out.mono ?_;rintro e w5 ⟨rfl,x⟩;have Z:=zI (x.back o.out r.out);clear x;go_wp2_with fail
 go_ret;refine⟨rfl,?_⟩;have:=Z.out
 simpa[Jh6,qcc] using this
end Go.Proofs.YtglmhddbhhcjdaaGreatDoor
namespace Go.Proofs.YtglmhddbhhcjdaaGreatDoor
open Go.RowKit
def DsAt (w:World) (F:Nat ->Prop) (g N q:Nat) (f:Int ->Option ByteArray):Prop:=∃n fl ws,DkAt w F g N n f fl ws/\n+ws.length<=q/\Jh6 fl ws=f
structure DsW (w0:World) (F:Nat ->Prop) (w:World) (g N q:Nat) (f:Int ->Option ByteArray):Prop where
 ex:∃n fl ws,DkW w0 F w g N n f fl ws/\n+ws.length<=q/\Jh6 fl ws=f
section
variable {w0 w w':World} {F G:Nat ->Prop} {g N q:Nat} {f:Int ->Option ByteArray}
theorem DsAt.ins(h:DsAt w F g N q f):Ins F w:=by obtain⟨_,_,_,h,_⟩:=h;exact h.ins
theorem DsAt.chg(h:DsAt w F g N q f)(hc:Chg G w w')(hd:Dj F G):DsAt w' F g N q f:=by obtain⟨n,fl,ws,h,b,c⟩:=h;exact⟨n,fl,ws,h.chg hc hd,b,c⟩
theorem DsAt.below(h:DsAt w F g N q f)(hb:Below w.heap.size w w'):DsAt w' F g N q f:=by obtain⟨n,fl,ws,h,b,c⟩:=h;exact⟨n,fl,ws,h.below hb,b,c⟩
theorem DsAt.sub(h:DsAt w F g N q f)(hs:∀b,F b ->G b)(hi:Ins G w):DsAt w G g N q f:=by obtain⟨n,fl,ws,h,b,c⟩:=h;exact⟨n,fl,ws,h.sub hs hi,b,c⟩
theorem DsAt.up{q':Nat}(h:DsAt w F g N q f)(hq:q<=q'):DsAt w F g N q' f:=by obtain⟨n,fl,ws,h,b,c⟩:=h;exact⟨n,fl,ws,h,qat b hq,c⟩
theorem DsAt.size(h:DsAt w F g N q f):1<=N/\N<=4096:=by obtain⟨_,_,_,h,_⟩:=h;exact h.size
theorem DsAt.blocks(h:DsAt w F g N q f):Cs 36 #[g] w (RS w (N:Int)):=by obtain⟨_,_,_,h,_⟩:=h;exact Jmg h
theorem DsW.start(h:DsAt w F g N q f):DsW w F w g N q f:=by obtain⟨n,fl,ws,h,b,c⟩:=h;exact⟨n,fl,ws,DkW.start h,b,c⟩
theorem DsW.at_(h:DsW w0 F w g N q f):DsAt w (grow F w0 w) g N q f:=by obtain⟨n,fl,ws,h,b,c⟩:=h.ex;exact⟨n,fl,ws,h.at_,b,c⟩
theorem DsW.chg(h:DsW w0 F w g N q f):Chg F w0 w:=by obtain⟨n,fl,ws,h,b,c⟩:=h.ex;exact h.chg
theorem DsW.below(h:DsW w0 F w g N q f)(hb:Below w.heap.size w w'):DsW w0 F w' g N q f:=by obtain⟨n,fl,ws,h,b,c⟩:=h.ex;exact⟨n,fl,ws,h.below hb,b,c⟩
theorem DsW.write(h:DsW w0 F w g N q f)(k:Nat)(hk:k<N)(s:ByteArray)(hs:s.size=256)(hq:q<=900000):
  Cs 28 #[g,(k:Int),s] w fun e w'=>e= .returned (0:Int)/\DsW w0 F w' g N (q+2) (setS f k s):=by
 obtain⟨n,fl,ws,h,b,c⟩:=h.ex;refine(h.write k hk s hs (by omega) (by omega)).mono ?_;rintro e w' ⟨rfl,z⟩;exact⟨rfl,n+1,fl,_,z,by rw[qad];simp only[qa3,qbn];omega,by rw[Jmf,c]⟩
theorem DsW.flush(h:DsW w0 F w g N q f)(hq:q<=900000):
  Cs 161 #[g] w fun e w'=>e= .returned (0:Int)/\DsW w0 F w' g N q f:=by
 obtain⟨n,fl,ws,h,b,c⟩:=h.ex;refine(h.flush (by omega)).mono ?_;rintro e w' ⟨rfl,z⟩;exact⟨rfl,_,_,[],z,by simpa using b,c⟩
theorem DsAt.super(gen bytes:Nat)(h:DsAt w F g N q f)(hg:1<=gen)(hg2:gen<18446744073709551616)(h1:64<=N)(h2:N<=4096)(hb:bytes<=40000)(hq:q<=900000):
  Cs 248 #[g,.agg #[.int .u64 (gen:Int),(N:Int),(bytes:Int)]] w fun e w'=>e= .returned (0:Int)/\
   DsW w F w' g N (q+2) (setS f ((gen % 2:Nat):Int) (strOf (suB gen N bytes))):=by
 obtain⟨n,fl,ws,h,b,c⟩:=h;refine(Jz3 gen bytes h hg hg2 h1 h2 hb (by omega)).mono ?_;rintro e w' ⟨rfl,z⟩;exact⟨rfl,_,_,[],z,by simp only[qbn];omega,by rw[c];rfl⟩
theorem J5y(N:Nat)(w:World)(h1:1<=N)(h2:N<=4096):
  Cs 11 #[(N:Int)] w fun e w'=>∃g,e= .returned (g:Nat)/\DsAt w' (made w w') g N 0 (fun _=>none)/\Below w.heap.size w w':=by
 refine(J7m N w h1 h2).mono ?_;rintro e w' ⟨g,rfl,h,z⟩;exact⟨g,rfl,⟨0,_,[],h,by simp,rfl⟩,z⟩
end
def Jkz (f:Int ->Option ByteArray):Nat ->Int ->Option ByteArray
 | 0=>f
 | k+1=>setS (Jkz f k) (k:Int) (strOf (zeros 256))
theorem Jqp(f:Int ->Option ByteArray)(n k:Nat)(h:k<n):Jbd (Jkz f n) (k:Int)=strOf (zeros 256):=by
 induction n with
 | zero=>omega
 | succ n ih=>
   unfold Jkz Jbd setS;by_cases e:(k:Int)=(n:Int)
   · rw[qa2 e];rfl
   · rw[qav e];exact ih (by omega)
theorem J7r{F:Nat ->Prop}{g N C B D R gd gen id mp bk q:Nat}{lg:Option Addr}{bad:Int}{f:Int ->Option ByteArray}(w:World)(hX:Bo w g (Jdv N C B D R ⟨gd,0,none⟩ gen id mp bk lg bad))(hg: ¬ F g)(hN:18<=N)(hD:DsAt w F gd N q f)(hq:q<=800000):
  Cs 92 #[g] w fun e w'=>e= .returned (0:Int)/\DsW w F w' gd N (q+36) (Jkz f 18):=by
 have i:=zI hX;have d:=zI (DsW.start hD);have s:=zI (Jn9 256 w (by omega));have c:=zI hX.lt;clear hX hD;go_enter Tryz.func92,Tryz.ntmps92;go_wp2_with fail
 refine s.out.mono ?_;rintro e w1 ⟨rfl,y⟩;have r:=zI (d.out.below y);have x1:=(i.out.below y).at_ 1 (v:= (2:Int)) rfl;obtain⟨Z,t⟩:=exE (strOf (zeros 256));have h:=zI t;have p:=zI (show Z.size=256 from by rw[t,Jab,Jcj]);rw[<- t];clear y t;go_wp2_with fail
 clear x1;go_loopw [4,13] (fun _ j wr=>∃k:Nat,k<=18/\j= .int .i64 (k:Int)/\DsW w F wr gd N (q+2*k) (Jkz f k)) (fun _ j _=>18 - (intOf j).toNat)
 case atStart=>exact⟨0,by omega,rfl,r.out⟩
 case round=>
  obtain⟨k,Y,rfl,u⟩:=hrel;have o:=i.out.chg u.chg hg;have x7:=o.at_ 7 (v:= gd) rfl;by_cases b:k<18
  · have n:=zI (u.write k (by omega) Z p.out (by omega))
    rw[h.out] at n;have a:=zI (show Jkz f (k+1)=setS (Jkz f k) (k:Int) (strOf (zeros 256)) from rfl);rw[<- a.out,<- h.out,show q+2*k+2=q+2*(k+1) from by omega] at n;clear u o;go_wp2_with fail
    refine n.out.mono ?_;rintro e w2 ⟨rfl,z⟩;have x:=zI z;clear z;go_wp2_with fail
    go_roundw
    case rel=>exact⟨k+1,by omega,by go_num,x.out⟩
    case measure=>simp[intOf];omega
  · have m:k=18:=by omega
    subst m;have l:=zI (u.flush (by omega));clear u o;go_wp2_with fail
    refine l.out.mono ?_;rintro e w2 ⟨rfl,z⟩;have x:=zI z;clear z;go_wp2_with fail
    go_ret;exact⟨rfl,x.out⟩
end Go.Proofs.YtglmhddbhhcjdaaGreatDoor
