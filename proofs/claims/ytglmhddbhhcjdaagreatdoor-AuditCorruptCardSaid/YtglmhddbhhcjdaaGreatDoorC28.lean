/- Laws that the walk of the last text wants. -/
import Derived.Test.YtglmhddbhhcjdaaGreatDoorC17
import Derived.Test.YtglmhddbhhcjdaaGreatDoorC21
import Derived.Test.YtglmhddbhhcjdaaGreatDoorC27
set_option maxRecDepth 100000
set_option linter.unusedSimpArgs false
set_option maxHeartbeats 4000000
namespace Go.Proofs.YtglmhddbhhcjdaaGreatDoor
open Go.RowKit Go.Maps
theorem Joq(N:Nat)(w:World)(h1:64<=N)(h2:N<=4096):
  Calls Tryz.prog 35 #[.int .i64 (N:Int)] w fun e w'=>e= .returned (.tuple #[.agg #[.int .i64 (N:Int),.int .i64 2,.int .i64 18,.int .i64 (28+N / 200:Nat),.int .i64 (N / 200+10:Nat),.int .i64 (38+2*(N / 200):Nat),.int .i64 ((N - (38+2*(N / 200))) / 2:Nat)],.int .i64 0])/\Below w.heap.size w w':=by
 have d1:decide ((N:Int)<64)=false:=qae (by omega);have d2:decide ((4096:Int)<(N:Int))=false:=qae (by omega);go_enter Tryz.func35,Tryz.ntmps35;go_wp2_with fail
 have z:(((N:Int) - (18+((N:Int) / 200+10)+((N:Int) / 200+10))) / 2)=(((N - (38+2*(N / 200))) / 2:Nat):Int):=by omega
 have y:(18+((N:Int) / 200+10))=((28+N / 200:Nat):Int):=by omega
 have x:(18+((N:Int) / 200+10)+((N:Int) / 200+10))=((38+2*(N / 200):Nat):Int):=by omega
 have u:((N:Int) / 200+10)=((N / 200+10:Nat):Int):=by omega
 rw[z,x,y,u];generalize ((N - (38+2*(N / 200))) / 2:Nat)=R;generalize (38+2*(N / 200):Nat)=D;generalize (28+N / 200:Nat)=CB;generalize (N / 200+10:Nat)=CT;exact qa6 (v:= .tuple #[.agg #[(N:Int),(2:Int),(18:Int),(CB:Int),(CT:Int),(D:Int),(R:Int)],(0:Int)]) (by simp[results,Tryz.results35,go_sem]) rfl ⟨rfl,((qaa _ _).alloc (qab _) _).alloc (by simp) _⟩
def suM:List UInt8:=[83,69,68,73,77,69,78,84]
def Ja8 (gen blocks n:Nat):List UInt8:=le 8 gen++(le 8 (u64 blocks)++le 8 (u64 n))++zeros 220
def suB (gen blocks n:Nat):List UInt8:=(suM++Ja8 gen blocks n)++crcB (suM++Ja8 gen blocks n)
theorem J0n(gen blocks n:Nat):(suB gen blocks n).length=256:=by simp[suB,suM,Ja8]
theorem J0o(gen blocks n:Nat)(w:World)(hg:1<=gen)(hg2:gen<18446744073709551616)(h1:64<=blocks)(h2:blocks<=4096)(hn:n<=40000):
  Cs 276 #[.agg #[.int .u64 (gen:Int),(blocks:Int),(n:Int)]] w (RB w (.tuple #[(strOf (suB gen blocks n)),(0:Int)])):=by
 have i:=(qaa w.heap.size w).alloc (qab _) (.cells #[.int .u64 (gen:Int),(blocks:Int),(n:Int)] 202);have h:=Bx.new w 202 #[.int .u64 (gen:Int),(blocks:Int),(n:Int)];have O:=zI h;have g:=zI i;have N:=zI (fun W=>Joq blocks W h1 h2);have d1:((gen:Int)==0)=false:=by rw[qat];omega
 have d2:decide ((n:Int)<0)=false:=qae (by omega);have d3:decide ((40000:Int)<(n:Int))=false:=qae (by omega);clear i h;go_enter Tryz.func276,Tryz.ntmps276;go_wp2_with fail
 refine(N.out _).mono ?_;rintro e w2 ⟨rfl,s⟩;have y:=O.out.below s;have M:=y.lt;have s0:=y.at_ 0 (v:= .int .u64 (gen:Int)) rfl;have s1:=y.at_ 1 (v:= (blocks:Int)) rfl;have s2:=y.at_ 2 (v:= (n:Int)) rfl;go_upto_region 4 with fail
 have r:=(qaa w2.heap.size w2).alloc (qab _) (.cells #[.int .i64 (blocks:Int),.int .i64 2,.int .i64 18,.int .i64 (28+(blocks:Int) / 200),.int .i64 ((blocks:Int) / 200+10),.int .i64 (38+2*((blocks:Int) / 200)),.int .i64 (((blocks - (38+2*(blocks / 200)):Nat):Int) / 2)] 64);obtain⟨w3,f⟩:∃w3,w3=w2.alloc (.cells #[.int .i64 (blocks:Int),.int .i64 2,.int .i64 18,.int .i64 (28+(blocks:Int) / 200),.int .i64 ((blocks:Int) / 200+10),.int .i64 (38+2*((blocks:Int) / 200)),.int .i64 (((blocks - (38+2*(blocks / 200)):Nat):Int) / 2)] 64):=⟨_,rfl⟩;rw[<- f] at r ⊢;have d:=zI (y.below r);have c:=zI (g.out.trans ((s.trans (r.mono s.size)).mono g.out.size));clear f r s y s0 s1 s2 M;have P0:=PkAt.new w3 w3.heap.size (qab _);have x:=(qaa w3.heap.size w3).alloc (qab _) (.cells #[.int .i64 0,.slice none 0 0] 281);obtain⟨w4,q⟩:∃w4,w4=w3.alloc (.cells #[.int .i64 0,.slice none 0 0] 281):=⟨_,rfl⟩;have L:=zI q;have K:w4.heap.size=w3.heap.size+1:=by rw[q];simp
 rw[<- q] at P0 x;have b:=zI (d.out.below x);have s0:=b.out.at_ 0 (v:= .int .u64 (gen:Int)) rfl;have u:=(qaa w4.heap.size w4).alloc (qab _) (.cells #[.int .u64 (gen:Int)] 55);have J:=zI (Jh8 w3.heap.size w3.heap.size (some ⟨w4.heap.size,0,none⟩) 1 1 [gen] [] _ (P0.below u) (Jhg.new _ (by decide) (by omega)) (Sl.new w4 55 w4.heap.size [.int .u64 (gen:Int)] #[.int .u64 (gen:Int)] rfl rfl) rfl (by simp) (qax x.size u.size));have I:=zI (c.out.trans ((x.trans (u.mono x.size)).mono c.out.size));have H:=zI (b.out.below u);clear q P0 x u;go_upto_region 5 with fail
 rw[<- L.out];go_wp2_with fail
 rw[<- K];refine J.out.mono ?_;rintro e w6 ⟨rfl,p,l⟩;have z:w.heap.size<w3.heap.size:=d.out.lt;have o:=l.below (B':=w3.heap.size) (qab _) (qab _) (by simp;omega);have a:=zI (show Bx w6 w.heap.size 202 #[.int .u64 (gen:Int),(blocks:Int),(n:Int)] from⟨(o.block _ z).trans H.out.blk⟩);have Z:=zI (I.out.trans (o.mono (qcw z)));have Hc:=o.size;have s1:=a.out.at_ 1 (v:= (blocks:Int)) rfl;have s2:=a.out.at_ 2 (v:= (n:Int)) rfl;have Y:w3.heap.size<w6.heap.size:=p.lt;have m:=(qaa w6.heap.size w6).alloc (qab _) (.cells #[(blocks:Int),(n:Int)] 3);have G:=zI (show([]:List UInt8)++[gen].flatMap (le 8)=le 8 gen from by simp);rw[G.out] at p;have F:=zI (Joa w3.heap.size w3.heap.size (some ⟨w6.heap.size,0,none⟩) 2 2 [(blocks:Int),(n:Int)] (le 8 gen) _ (p.below m) (Jhg.new _ (by decide) Y) (Sl.new w6 3 w6.heap.size [(blocks:Int),(n:Int)] #[(blocks:Int),(n:Int)] rfl rfl) rfl (by simp) (qax (qcw Y) m.size));have E:=zI (Z.out.trans (m.mono Z.out.size));clear p l o m s0;go_wp2_with fail
 refine F.out.mono ?_;rintro e w8 ⟨rfl,t,k⟩;have V:=zI (show le 8 gen++([(blocks:Int),(n:Int)].flatMap fun v=>le 8 (u64 v))=le 8 gen++(le 8 (u64 blocks)++le 8 (u64 n)) from by simp);rw[V.out] at t;have U:=k.below (B':=w3.heap.size) (qab _) (qab _) (by simp;omega);have D:=zI (E.out.trans (U.mono (qcw z)));have C:=zI (Juj w3.heap.size w3.heap.size 244 _ w8 t (by simp) (by omega) (qcw t.lt));have B:w3.heap.size<=w8.heap.size:=qcw t.lt;clear t k U;go_wp2_with fail
 refine C.out.mono ?_;rintro e w9 ⟨rfl,T,j⟩;have S:=j.below (B':=w3.heap.size) (qab _) (qab _) B;have R:=zI (D.out.trans (S.mono (qcw z)));have P:=zI (Job _ _ _ w9 T);have A:=zI (show le 8 gen++(le 8 (u64 blocks)++le 8 (u64 n))++zeros (244 - (le 8 gen++(le 8 (u64 blocks)++le 8 (u64 n))).length)=Ja8 gen blocks n from by simp[Ja8]);rw[A.out] at P;clear T j S;go_wp2_with fail
 refine P.out.mono ?_;rintro e wa ⟨rfl,hw⟩;subst hw;have hJ:=zI (Jwi (suM++Ja8 gen blocks n) w9 (by simp[suM,Ja8]));have Hd:(strOf (Ja8 gen blocks n)).size=244:=by rw[Jaa];simp[Ja8]
 have Ha:=zI (show(⟨#[83,69,68,73,77,69,78,84]⟩:ByteArray)++strOf (Ja8 gen blocks n)=strOf (suM++Ja8 gen blocks n) from by apply Ja7;simp[strOf,suM]);go_wp2_with fail
 rw[Ha.out];refine hJ.out.mono ?_;rintro e wb ⟨rfl,Hb⟩;go_wp2_with fail
 go_ret2;exact⟨rfl,R.out.trans (Hb.mono R.out.size)⟩
theorem Jig(m n:Nat):zeros m++zeros n=zeros (m+n):=by unfold zeros;rw[List.replicate_append_replicate]
theorem Kam:Jbo 4294967295 (zeros 63)=870118205:=by decide+kernel
theorem Kan:Jbo 870118205 (zeros 63)=3892639057:=by decide+kernel
theorem Kao:Jbo 3892639057 (zeros 63)=3781187155:=by decide+kernel
theorem Kap:Jbo 3781187155 (zeros 63)=379417283:=by decide+kernel
theorem Jhm(x:Int)(a b:List UInt8):Jbo x (a++b)=Jbo (Jbo x a) b:=by simp[Jbo]
theorem crcz:Jfn (zeros 252)=3915550012:=by
 have e:zeros 252=zeros 63++(zeros 63++(zeros 63++zeros 63)):=by rw[Jig,Jig,Jig]
 have e0:bits BinOp.xor IntKind.u32 0 4294967295=4294967295:=by decide+kernel
 unfold Jfn;rw[e,Jhm,Jhm,Jhm,e0,Kam,Kan,Kao,Kap];decide+kernel
theorem J0p:zeros 4≠crcB (zeros 252):=by
 unfold crcB;rw[crcz];decide+kernel
theorem J41(w:World):
  Cs 210 #[(strOf (zeros 256))] w (RB w (.tuple #[.agg #[.int .u64 0,(0:Int),(0:Int)],(7:Int)])):=by
 have x:=(qaa w.heap.size w).alloc (qab _) (.cells #[.int .u64 0,(0:Int),(0:Int)] 202);have u:=Bx.new w 202 #[.int .u64 0,(0:Int),(0:Int)];obtain⟨w1,t⟩:=exE (w.alloc (.cells #[.int .u64 0,(0:Int),(0:Int)] 202));rw[<- t] at x u;have p:=zI t;have o:=zI u;have r:=zI x;clear t x u;have l:=zI (Jqd (zeros 252) (zeros 4) w1 rfl (by simp));rw[Jig,show Jzd (zeros 252) (zeros 4)= .tuple #[ByteArray.empty,(7:Int)] from qay J0p] at l;have j:(strOf (zeros (252+4))).size=256:=by rw[Jaa,Jbr]
 have k:=zI (show strOf (zeros 256)=strOf (zeros (252+4)) from rfl);rw[k.out];clear k;generalize strOf (zeros (252+4))=S at*;go_enter Tryz.func210,Tryz.ntmps210;go_upto_region 1 with fail
 rw[<- p.out];go_wp2_with fail
 refine l.out.mono ?_;rintro e w2 ⟨rfl,n⟩;have z:=zI (o.out.below n);have m:=zI (r.out.trans (n.mono r.out.size));clear n;have r0:=z.out.at_ 0 rfl;have r1:=z.out.at_ 1 rfl;have r2:=z.out.at_ 2 rfl;have f0:=z.out.free 0;have f1:=z.out.free 1;have f2:=z.out.free 2;go_wp2_with fail
 obtain⟨w9,s⟩:=exE (putC w2 w.heap.size 0 [.int .u64 0,(0:Int),(0:Int)]);have y:=Jaw z.out [.int .u64 0,(0:Int),(0:Int)] rfl;have q:=Jaj (B:=w.heap.size) [.int .u64 0,(0:Int),(0:Int)] (qab _) w2 0;rw[<- s] at y q;simp only[putC,qa7,Nat.reduceAdd] at s;rw[<- s];have q0:=y.at_ 0 rfl;have q1:=y.at_ 1 rfl;have q2:=y.at_ 2 rfl;exact qa6 (v:= .tuple #[.agg #[.int .u64 0,(0:Int),(0:Int)],(7:Int)]) (by simp[results,Tryz.results210,go_sem,q0,q1,q2]) rfl ⟨rfl,m.out.trans q⟩
theorem J8b(gen blocks n:Nat)(w:World)(hg:1<=gen)(hg2:gen<18446744073709551616)(h1:64<=blocks)(h2:blocks<=4096)(hn:n<=40000):
  Cs 210 #[(strOf (suB gen blocks n))] w (RB w (.tuple #[.agg #[.int .u64 (gen:Int),(blocks:Int),(n:Int)],(0:Int)])):=by
 have r:=(qaa w.heap.size w).alloc (qab _) (.cells #[.int .u64 0,(0:Int),(0:Int)] 202);have q:=Bx.new w 202 #[.int .u64 0,(0:Int),(0:Int)];obtain⟨w1,p⟩:=exE (w.alloc (.cells #[.int .u64 0,(0:Int),(0:Int)] 202));rw[<- p] at r q;have d:=zI p;have c:=zI q;have m:=zI r;clear p r q;have h:=zI (Jqd (suM++Ja8 gen blocks n) (crcB (suM++Ja8 gen blocks n)) w1 (by simp) (by simp[suM,Ja8]));rw[show Jzd (suM++Ja8 gen blocks n) (crcB (suM++Ja8 gen blocks n))= .tuple #[(strOf (suM++Ja8 gen blocks n)),(0:Int)] from qa0 rfl] at h;have M:=zI (fun W=>J0o gen blocks n W hg hg2 h1 h2 hn);have l:=zI (show(suM++Ja8 gen blocks n)++crcB (suM++Ja8 gen blocks n)=suB gen blocks n from rfl);rw[l.out] at h;have L:(strOf (suB gen blocks n)).size=256:=by rw[Jaa,J0n]
 have J:(strOf (suM++Ja8 gen blocks n)).extract 8 252=strOf (Ja8 gen blocks n):=by
  have:=Ji1 suM (Ja8 gen blocks n);rw[show suM.length=8 from rfl,show(Ja8 gen blocks n).length=244 from by simp[Ja8]] at this;exact this
 have O:(strOf (suM++Ja8 gen blocks n)).size=252:=by rw[Jaa];simp[suM,Ja8]
 have N:=zI (fun (W:World) (f:Below w1.heap.size w1 W)=>ReadW.from_ w1 f (Ja8 gen blocks n) (by simp[Ja8]));have b:=zI (show Ja8 gen blocks n=le 8 gen++(le 8 (u64 blocks)++(le 8 (u64 n)++zeros 220)) from by simp[Ja8]);have a:=zI hg2;generalize strOf (suM++Ja8 gen blocks n)=X at*;generalize strOf (suB gen blocks n)=S at*;clear hg2 l;go_enter Tryz.func210,Tryz.ntmps210;go_upto_region 1 with fail
 rw[<- d.out];go_wp2_with fail
 refine h.out.mono ?_;rintro e w2 ⟨rfl,f⟩;have Z:=zI (N.out _ f);clear f N h;go_wp2_with fail
 refine Z.out.mono ?_;rintro e w3 ⟨g,rfl,y⟩;rw[b.out] at y;have K:=zI (ReadW.word gen _ y a.out (by simp));clear y;go_wp2_with fail
 refine K.out.mono ?_;rintro e w4 ⟨rfl,y⟩;have Y:=zI (ReadW.int (blocks:Int) _ y (by omega) (by simp));clear y;go_wp2_with fail
 refine Y.out.mono ?_;rintro e w5 ⟨rfl,y⟩;have V:=zI (ReadW.int (n:Int) _ y (by omega) (by simp));clear y;go_wp2_with fail
 refine V.out.mono ?_;rintro e w6 ⟨rfl,y⟩;have U:=zI (c.out.below y.below);have k:=zI (m.out.trans (y.below.mono m.out.size));have x:=(qaa w6.heap.size w6).alloc (qab _) (.cells #[.int .u64 (gen:Int),(blocks:Int),(n:Int)] 202);have T:=zI (U.out.below x);have R:=zI (Bx.new w6 202 #[.int .u64 (gen:Int),(blocks:Int),(n:Int)]);have j:=zI (k.out.trans (x.mono k.out.size));clear y x;go_wp2_with fail
 refine(M.out _).mono ?_;rintro e w8 ⟨rfl,u⟩;have z:=zI (T.out.below u);have P:=zI (j.out.trans (u.mono j.out.size));have t:=R.out.below u;have s0:=t.at_ 0 (v:= .int .u64 (gen:Int)) rfl;have s1:=t.at_ 1 (v:= (blocks:Int)) rfl;have s2:=t.at_ 2 (v:= (n:Int)) rfl;have r0:=z.out.at_ 0 rfl;have r1:=z.out.at_ 1 rfl;have r2:=z.out.at_ 2 rfl;have f0:=z.out.free 0;have f1:=z.out.free 1;have f2:=z.out.free 2;clear u t;go_wp2_with fail
 obtain⟨w9,o⟩:=exE (putC w8 w.heap.size 0 [.int .u64 (gen:Int),(blocks:Int),(n:Int)]);have s:=Jaw z.out [.int .u64 (gen:Int),(blocks:Int),(n:Int)] rfl;have i:=Jaj (B:=w.heap.size) [.int .u64 (gen:Int),(blocks:Int),(n:Int)] (qab _) w8 0;rw[<- o] at s i;simp only[putC,qa7,Nat.reduceAdd] at o;rw[<- o];have q0:=s.at_ 0 rfl;have q1:=s.at_ 1 rfl;have q2:=s.at_ 2 rfl;exact qa6 (v:= .tuple #[.agg #[.int .u64 (gen:Int),(blocks:Int),(n:Int)],(0:Int)]) (by simp[results,Tryz.results210,go_sem,q0,q1,q2]) rfl ⟨rfl,P.out.trans i⟩
theorem J0q{w:World}{F:Nat ->Prop}{g N n:Nat}{f fl:Int ->Option ByteArray}{ws:List (Int×ByteArray)}(gen bytes:Nat)(h:DkAt w F g N n f fl ws)(hg:1<=gen)(hg2:gen<18446744073709551616)(h1:64<=N)(h2:N<=4096)(hb:bytes<=40000)(hn:n+ws.length+2<=1000000):
  Cs 248 #[g,.agg #[.int .u64 (gen:Int),(N:Int),(bytes:Int)]] w fun e w'=>e= .returned (0:Int)/\
   DkW w F w' g N (n+ws.length+2) (setS f ((gen % 2:Nat):Int) (strOf (suB gen N bytes))) (setS (Jib fl ws) ((gen % 2:Nat):Int) (strOf (suB gen N bytes))) []:=by
 have y:=(qaa w.heap.size w).alloc (qab _) (.cells #[.int .u64 (gen:Int),(N:Int),(bytes:Int)] 202);have u:=Bx.new w 202 #[.int .u64 (gen:Int),(N:Int),(bytes:Int)];obtain⟨w1,t⟩:=exE (w.alloc (.cells #[.int .u64 (gen:Int),(N:Int),(bytes:Int)] 202));have q:=zI t;rw[<- t] at y u;have p:=zI (DkW.start (h.below y));have o:=zI y;have r:=zI h.ins;have c:=zI (fun W=>J0o gen N bytes W hg hg2 h1 h2 hb);have m:=zI (show(strOf (suB gen N bytes)).size=256 from by rw[Jaa,J0n]);generalize strOf (suB gen N bytes)=S at*;have z:=zI u;have b:=zI h.ws;clear t y u hg2 h;go_enter Tryz.func248,Tryz.ntmps248;go_upto_region 1 with fail
 rw[<- q.out];have s0:=z.out.at_ 0 (v:= .int .u64 (gen:Int)) rfl;have s1:=z.out.at_ 1 (v:= (N:Int)) rfl;have s2:=z.out.at_ 2 (v:= (bytes:Int)) rfl;go_wp2_with fail
 refine(c.out _).mono ?_;rintro e w2 ⟨rfl,s⟩;have l:=zI (p.out.below s);have a:=zI (z.out.below s);have k:=zI (l.out.flush (by omega));clear s0 s1 s2 s;go_wp2_with fail
 refine k.out.mono ?_;rintro e w3 ⟨rfl,x⟩;have s0:=(z.out.chg x.chg r.out.not).at_ 0 (v:= .int .u64 (gen:Int)) rfl;have j:=zI (x.write (gen % 2) (by omega) S m.out (by omega) (by simp));have i:=zI (show((gen:Int) % 2)=((gen % 2:Nat):Int) from by omega);clear x;go_wp2_with fail
 rw[i.out];refine j.out.mono ?_;rintro e w4 ⟨rfl,x⟩;have d:=zI (x.flush (by simp;omega));clear x;go_wp2_with fail
 refine d.out.mono ?_;rintro e w5 ⟨rfl,x⟩;have Z:=zI (x.back o.out r.out);clear x;go_wp2_with fail
 go_ret;refine⟨rfl,?_⟩;have:=Z.out
 simpa[Jib,qcd] using this
end Go.Proofs.YtglmhddbhhcjdaaGreatDoor
namespace Go.Proofs.YtglmhddbhhcjdaaGreatDoor
open Go.RowKit
def DsAt (w:World) (F:Nat ->Prop) (g N q:Nat) (f:Int ->Option ByteArray):Prop:=∃n fl ws,DkAt w F g N n f fl ws/\n+ws.length<=q/\Jib fl ws=f
structure DsW (w0:World) (F:Nat ->Prop) (w:World) (g N q:Nat) (f:Int ->Option ByteArray):Prop where
 ex:∃n fl ws,DkW w0 F w g N n f fl ws/\n+ws.length<=q/\Jib fl ws=f
section
variable {w0 w w':World} {F G:Nat ->Prop} {g N q:Nat} {f:Int ->Option ByteArray}
theorem DsAt.ins(h:DsAt w F g N q f):Ins F w:=by obtain⟨_,_,_,h,_⟩:=h;exact h.ins
theorem DsAt.chg(h:DsAt w F g N q f)(hc:Chg G w w')(hd:Dj F G):DsAt w' F g N q f:=by obtain⟨n,fl,ws,h,b,c⟩:=h;exact⟨n,fl,ws,h.chg hc hd,b,c⟩
theorem DsAt.below(h:DsAt w F g N q f)(hb:Below w.heap.size w w'):DsAt w' F g N q f:=by obtain⟨n,fl,ws,h,b,c⟩:=h;exact⟨n,fl,ws,h.below hb,b,c⟩
theorem DsAt.sub(h:DsAt w F g N q f)(hs:∀b,F b ->G b)(hi:Ins G w):DsAt w G g N q f:=by obtain⟨n,fl,ws,h,b,c⟩:=h;exact⟨n,fl,ws,h.sub hs hi,b,c⟩
theorem DsAt.up{q':Nat}(h:DsAt w F g N q f)(hq:q<=q'):DsAt w F g N q' f:=by obtain⟨n,fl,ws,h,b,c⟩:=h;exact⟨n,fl,ws,h,qax b hq,c⟩
theorem DsAt.size(h:DsAt w F g N q f):1<=N/\N<=4096:=by obtain⟨_,_,_,h,_⟩:=h;exact h.size
theorem DsAt.read(h:DsAt w F g N q f)(k:Nat)(hk:k<N):
  Cs 27 #[g,(k:Int)] w (RB w (.tuple #[(Jav f k),(0:Int)])):=by obtain⟨_,_,_,h,_⟩:=h;exact Jjv h k hk
theorem DsAt.blocks(h:DsAt w F g N q f):Cs 36 #[g] w (RS w (N:Int)):=by obtain⟨_,_,_,h,_⟩:=h;exact Jmo h
theorem DsW.start(h:DsAt w F g N q f):DsW w F w g N q f:=by obtain⟨n,fl,ws,h,b,c⟩:=h;exact⟨n,fl,ws,DkW.start h,b,c⟩
theorem DsW.at_(h:DsW w0 F w g N q f):DsAt w (grow F w0 w) g N q f:=by obtain⟨n,fl,ws,h,b,c⟩:=h.ex;exact⟨n,fl,ws,h.at_,b,c⟩
theorem DsW.chg(h:DsW w0 F w g N q f):Chg F w0 w:=by obtain⟨n,fl,ws,h,b,c⟩:=h.ex;exact h.chg
theorem DsW.below(h:DsW w0 F w g N q f)(hb:Below w.heap.size w w'):DsW w0 F w' g N q f:=by obtain⟨n,fl,ws,h,b,c⟩:=h.ex;exact⟨n,fl,ws,h.below hb,b,c⟩
theorem DsW.write(h:DsW w0 F w g N q f)(k:Nat)(hk:k<N)(s:ByteArray)(hs:s.size=256)(hq:q<=900000):
  Cs 28 #[g,(k:Int),s] w fun e w'=>e= .returned (0:Int)/\DsW w0 F w' g N (q+2) (setS f k s):=by
 obtain⟨n,fl,ws,h,b,c⟩:=h.ex;refine(h.write k hk s hs (by omega) (by omega)).mono ?_;rintro e w' ⟨rfl,z⟩;exact⟨rfl,n+1,fl,_,z,by rw[qad];simp only[qa3,qbo];omega,by rw[Jmn,c]⟩
theorem DsW.flush(h:DsW w0 F w g N q f)(hq:q<=900000):
  Cs 161 #[g] w fun e w'=>e= .returned (0:Int)/\DsW w0 F w' g N q f:=by
 obtain⟨n,fl,ws,h,b,c⟩:=h.ex;refine(h.flush (by omega)).mono ?_;rintro e w' ⟨rfl,z⟩;exact⟨rfl,_,_,[],z,by simpa using b,c⟩
theorem DsAt.super(gen bytes:Nat)(h:DsAt w F g N q f)(hg:1<=gen)(hg2:gen<18446744073709551616)(h1:64<=N)(h2:N<=4096)(hb:bytes<=40000)(hq:q<=900000):
  Cs 248 #[g,.agg #[.int .u64 (gen:Int),(N:Int),(bytes:Int)]] w fun e w'=>e= .returned (0:Int)/\
   DsW w F w' g N (q+2) (setS f ((gen % 2:Nat):Int) (strOf (suB gen N bytes))):=by
 obtain⟨n,fl,ws,h,b,c⟩:=h;refine(J0q gen bytes h hg hg2 h1 h2 hb (by omega)).mono ?_;rintro e w' ⟨rfl,z⟩;exact⟨rfl,_,_,[],z,by simp only[qbo];omega,by rw[c];rfl⟩
theorem J0r(N:Nat)(w:World)(h1:1<=N)(h2:N<=4096):
  Cs 11 #[(N:Int)] w fun e w'=>∃g,e= .returned (g:Nat)/\DsAt w' (made w w') g N 0 (fun _=>none)/\Below w.heap.size w w':=by
 refine(J7x N w h1 h2).mono ?_;rintro e w' ⟨g,rfl,h,z⟩;exact⟨g,rfl,⟨0,_,[],h,by simp,rfl⟩,z⟩
end
def Jlk (f:Int ->Option ByteArray):Nat ->Int ->Option ByteArray
 | 0=>f
 | k+1=>setS (Jlk f k) (k:Int) (strOf (zeros 256))
theorem Jqz(f:Int ->Option ByteArray)(n k:Nat)(h:k<n):Jav (Jlk f n) (k:Int)=strOf (zeros 256):=by
 induction n with
 | zero=>omega
 | succ n ih=>
   unfold Jlk Jav setS;by_cases e:(k:Int)=(n:Int)
   · rw[qa0 e];rfl
   · rw[qay e];exact ih (by omega)
theorem J8c{F:Nat ->Prop}{g N C B D R gd gen id mp bk q:Nat}{lg:Option Addr}{bad:Int}{f:Int ->Option ByteArray}(w:World)(hX:Bo w g (Jdm N C B D R ⟨gd,0,none⟩ gen id mp bk lg bad))(hg: ¬ F g)(hN:18<=N)(hD:DsAt w F gd N q f)(hq:q<=800000):
  Cs 92 #[g] w fun e w'=>e= .returned (0:Int)/\DsW w F w' gd N (q+36) (Jlk f 18):=by
 have i:=zI hX;have d:=zI (DsW.start hD);have s:=zI (Jof 256 w (by omega));have c:=zI hX.lt;clear hX hD;go_enter Tryz.func92,Tryz.ntmps92;go_wp2_with fail
 refine s.out.mono ?_;rintro e w1 ⟨rfl,y⟩;have r:=zI (d.out.below y);have x1:=(i.out.below y).at_ 1 (v:= (2:Int)) rfl;obtain⟨Z,t⟩:=exE (strOf (zeros 256));have h:=zI t;have p:=zI (show Z.size=256 from by rw[t,Jaa,Jbr]);rw[<- t];clear y t;go_wp2_with fail
 clear x1;go_loopw [4,13] (fun _ j wr=>∃k:Nat,k<=18/\j= .int .i64 (k:Int)/\DsW w F wr gd N (q+2*k) (Jlk f k)) (fun _ j _=>18 - (intOf j).toNat)
 case atStart=>exact⟨0,by omega,rfl,r.out⟩
 case round=>
  obtain⟨k,Y,rfl,u⟩:=hrel;have o:=i.out.chg u.chg hg;have x7:=o.at_ 7 (v:= gd) rfl;by_cases b:k<18
  · have n:=zI (u.write k (by omega) Z p.out (by omega))
    rw[h.out] at n;have a:=zI (show Jlk f (k+1)=setS (Jlk f k) (k:Int) (strOf (zeros 256)) from rfl);rw[<- a.out,<- h.out,show q+2*k+2=q+2*(k+1) from by omega] at n;clear u o;go_wp2_with fail
    refine n.out.mono ?_;rintro e w2 ⟨rfl,z⟩;have x:=zI z;clear z;go_wp2_with fail
    go_roundw
    case rel=>exact⟨k+1,by omega,by go_num,x.out⟩
    case measure=>simp[intOf];omega
  · have m:k=18:=by omega
    subst m;have l:=zI (u.flush (by omega));clear u o;go_wp2_with fail
    refine l.out.mono ?_;rintro e w2 ⟨rfl,z⟩;have x:=zI z;clear z;go_wp2_with fail
    go_ret;exact⟨rfl,x.out⟩
def shO (n:Nat) (r:Rc):Nat:=(Jc2 r.nm.toList (n:Int)).toNat
def Ja4 (n:Nat) (l:List Rc) (k:Nat):List Rc:=l.filter fun r=>decide (shO n r=k)
theorem Jm2{n:Nat}(h:1<=n)(r:Rc):Jc2 r.nm.toList (n:Int)=(shO n r:Int)/\shO n r<n:=by
 have z:=Jrv r.nm.toList;unfold shO Jc2;rw[qay (by omega)];have y:=Int.emod_nonneg (hash r.nm.toList) (show(n:Int)≠0 by omega);have x:=Int.emod_lt_of_pos (hash r.nm.toList) (show(0:Int)<n by omega);omega
theorem Jm3(n:Nat)(l:List Rc)(r:Rc)(k:Nat):Ja4 n (l++[r]) k=if shO n r=k then Ja4 n l k++[r] else Ja4 n l k:=by
 unfold Ja4;rw[qcz];by_cases h:shO n r=k
 · rw[qa0 h];simp[h]
 · rw[qay h];simp[h]
theorem Jll(n:Nat)(l:List Rc)(k:Nat):(Ja4 n l k).length<=l.length:=qdh _ _
theorem Jq0(r:Rc)(n:Nat)(w:World)(hn:1<=n)(hs:r.nm.size<=maxLen):
  Cs 286 #[r.val,(n:Int)] w (RB w (shO n r:Int)):=by
 have z:=zI (fun W=>Jo7 r.nm (n:Int) W hs);rw[(Jm2 hn r).1] at z;have y:=(qaa w.heap.size w).alloc (qab _) (.cells #[r.nm,(r.st:Int),(r.ag.c:Int),(r.ag.hi:Int),.int .u64 r.ag.lo,(r.ag.mn:Int),(r.ag.mx:Int)] 142);have x:=zI y;clear y;go_enter Tryz.func286,Tryz.ntmps286;go_wp2_with fail
 refine(z.out _).mono ?_;rintro e w1 ⟨rfl,v⟩;subst v;go_wp2_with fail
 go_ret;exact⟨rfl,x.out⟩
structure SplW (w wr:World) (gO n:Nat) (cell:Nat ->Value) (ls:Nat ->List Rc):Prop where
 box:Bx wr gO 43 ((List.range n).map cell).toArray
 row:∀k,k<n ->wr.ownsRow w.heap.size 142 7 (cell k) (ls k).length ((ls k).flatMap Rc.cells)
 apart:∀i j,i<n ->j<n ->i≠j ->(cell i).ownBlock=none\/(cell i).ownBlock≠(cell j).ownBlock
 bel:Below w.heap.size w wr
 low:w.heap.size<=gO
section
variable {w wr w1 w':World} {gO n k:Nat} {cell:Nat ->Value} {ls:Nat ->List Rc}
theorem SplW.below(h:SplW w wr gO n cell ls)(hb:Below wr.heap.size wr w'):SplW w w' gO n cell ls:=⟨h.box.below hb,fun k hk=>Jaf (h.row k hk) hb,h.apart,h.bel.trans (hb.mono h.bel.size),h.low⟩
theorem SplW.at_(h:SplW w wr gO n cell ls)(hk:k<n):wr.cell? ⟨gO,k,none⟩=some (cell k):=h.box.at_ k (by simp[hk])
theorem SplW.put(h:SplW w wr gO n cell ls)(hk:k<n)(r:Rc){v:Value}(hb:Below wr.heap.size wr w1)(hg:w1.grownBy w' (cell k).ownBlock)(ho:w'.ownsRow w.heap.size 142 7 v ((ls k).length+1) ((ls k).flatMap Rc.cells++r.cells))(hat:v.ownBlock=(cell k).ownBlock\/∀b,v.ownBlock=some b ->w1.heap.size<=b):
  SplW w (w'.setCell ⟨gO,k,none⟩ v) gO n (fun i=>if i=k then v else cell i) (fun i=>if i=k then ls i++[r] else ls i):=by
 have z:=h.below hb;have y:=z.box.grown hg (z.box.not_row (z.row k hk) (by decide));have x:=Jam w' gO k v;have key:∀ {u:Value} {m:Nat} {xs:List Value},w'.ownsRow w.heap.size 142 7 u m xs ->(w'.setCell ⟨gO,k,none⟩ v).ownsRow w.heap.size 142 7 u m xs:=fun hu=>hu.kept x (.inr fun e=>(y.not_row hu (by decide)) e.symm);refine⟨?_,fun i hi=> ?_,fun i j hi hj hij=> ?_,?_,h.low⟩
 · have:=y.set k v
   rw [show(((List.range n).map cell).toArray.setIfInBounds k v)=((List.range n).map fun i=>if i=k then v else cell i).toArray from by
    apply Array.ext';rw[Array.toList_setIfInBounds];apply qc7
    · simp
    · intro i z t
      simp only[List.getElem_set,qbq,List.getElem_range];by_cases e:k=i
      · subst e;simp
      · rw[qay e,qay (fun e2=>e e2.symm)]] at this
   exact this
 · by_cases e:i=k
   · subst e
     simp only[if_true];rw[qad,qav]
     simpa using key ho
   · simp only[qay e]
     refine key ((z.row i hi).kept hg ?_);exact h.apart i k hi hk e
 · have far:∀i,i<n ->i≠k ->(cell i).ownBlock=none\/(cell i).ownBlock≠v.ownBlock:=fun i hi hik=>by
    rcases hat with e | e
    · rw[e];exact h.apart i k hi hk hik
    · cases hc:(cell i).ownBlock with
      | none=>exact .inl rfl
      | some b=>
        refine .inr fun e2=> ?_;have s:=e b e2.symm;have q:=((z.row i hi).lt b hc).2;omega
   by_cases ei:i=k
   · subst ei
     have ej:j≠i:=fun e=>hij e.symm;simp only[if_true,qay ej];rcases far j hj ej with e | e
     · cases hv:v.ownBlock with
       | none=>exact .inl rfl
       | some b=>exact .inr (by rw[e];simp)
     · exact .inr (fun e2=>e e2.symm)
   · by_cases ej:j=k
     · subst ej
       simp only[if_true,qay ei];exact far i hi ei
     · simp only[qay ei,qay ej]
       exact h.apart i j hi hj hij
 · have b1:=Jbd (z.row k hk) hg z.bel z.bel.size
   exact b1.setCell h.low v
end
theorem J0s:(Tryz.prog.info? 43).map (fun i=>(i.zero,i.size,i.bytes))=some (some (.slice none 0 0),1,24):=by kernel_rfl
theorem Jwu(n:Nat)(h:n<=1000)(W:World):(Instr.makeSlice 415 (n:Int) (n:Int)).run Tryz.prog W= .ok (.slice (some ⟨W.heap.size,0,none⟩) n n) (W.alloc (.cells ((List.range n).map fun _=>Value.slice none 0 0).toArray 43)):=by
 obtain⟨i0,w,z,y,x⟩:=qb2 J0s;rw[run_make W 415 43 i0 () Tryz.underlying415 w z .i64 .i64 n n (by omega) (by omega) (by rw[x];omega) (by omega)]
 have e:madeCells (Value.slice none 0 0).cells ((n:Int).toNat*i0.size)=((List.range n).map fun _=>Value.slice none 0 0).toArray:=by
  rw[y];apply Array.ext';rw[show(Value.slice none 0 0).cells=#[.slice none 0 0] from rfl,toList_madeCells_one];apply qc7<;>simp
 rw[e];rfl
theorem J8d{ops:Array Oper}{o:Oper}{a:Act}{K:Act ->World ->Prop}{Q:Exit ->Act ->World ->Prop}{E:Prop}{w:World}{base:Nat}{v:Value}{n:Nat}{xs:List Value}(hgd:o.guard=none)(s x:Operand)(ho:o.op= .call {callee:= .builtin .append,args:=#[s,x],argTypes:=#[43,43]})(h:w.ownsRow base 142 7 v n xs)(hs:a.eval s=v)(A:Option Addr)(m c:Nat)(news:List Value)(hx:a.eval x= .slice A m c)(hl:news.length=m*7)(hsl:Sl w A news)(h1:∀u∈news,u.oneCell'=true)(hn:n+m<=1000000)(hb:base<=w.heap.size)(hK:∀A' c' w',w'.ownsRow base 142 7 (.slice A' (n+m) c') (n+m) (xs++news) ->w.grownBy w' v.ownBlock ->((Value.slice A' (n+m) c').ownBlock=v.ownBlock\/∀b,(Value.slice A' (n+m) c').ownBlock=some b ->w.heap.size<=b) ->K (a.put o.dst (.slice A' (n+m) c')) w'):
  if Region.wanted o (yielded ops a.tmps)=true then Oper.wp Tryz.prog o a w K Q else E:=by
 obtain⟨i0,q,z,y,t⟩:=qb2 Jr9;refine Jb6 (P:=Tryz.prog) w hgd s x 43 ho base 142 i0 _ 7 64 Tryz.underlying43 q z y t rfl (by decide) v n xs hs h A m c news hx hl hsl h1 (by unfold maxLen;omega) (by omega) hb ?_;intro v' w' r p l;obtain⟨A',c',rfl,_⟩:=Jao r;exact hK A' c' w' r p (l.imp (fun h=>h) fun h b e=>by rw[h] at e;cases e;exact qab _)
theorem J42(A:Option Addr)(m c n:Nat)(l:List Rc)(w:World)(hl:Rcs w A m l)(hn:1<=n/\n<=8)(hm:m<=900000):
  Cs 309 #[.slice A m c,(n:Int)] w fun e w'=>∃gO cell,e= .returned (.slice (some ⟨gO,0,none⟩) n n)/\SplW w w' gO n cell (Ja4 n l):=by
 have Hj:=Jwu n (by omega);have Hk:max (n:Int) 1=(n:Int):=by omega
 have HL:=zI hl;have S:=zI hl.len;have J:=zI hl.nm;have R:=(qaa w.heap.size w).alloc (qab _) (.cells ((List.range n).map fun _=>Value.slice none 0 0).toArray 43)
 have P:=zI (show SplW w (w.alloc (.cells ((List.range n).map fun _=>Value.slice none 0 0).toArray 43)) w.heap.size n (fun _=> ()) (Ja4 n []) from
  ⟨Bx.new w _ _,fun k _=>qaz _ _ _ _,fun i j _ _ _=> .inl rfl,R,qab _⟩)
 clear R hl;go_enter Tryz.func309,Tryz.ntmps309;go_wp2_with fail
 obtain⟨w1,g⟩:=exE (w.alloc (.cells ((List.range n).map fun _=>Value.slice none 0 0).toArray 43));obtain⟨gO,f⟩:=exE w.heap.size;rw[<- g,<- f] at P;rw[<- g,<- f];clear g f;go_loopw [14] (fun j wr=>∃ (q:Nat) (cell:Nat ->Value),q<=m/\j= .int .i64 (q:Int)/\SplW w wr gO n cell (Ja4 n (l.take q))) (fun j _=>m - (intOf j).toNat)
 case atStart=>exact⟨0,_,qaq _,rfl,P.out⟩
 case round=>
  obtain⟨q,cell,hq,rfl,T⟩:=hrel;by_cases I:q<m
  · have K:q<l.length:=by rw[S.out];exact I
    obtain⟨b,off,rfl,Hl,r0,r1,r2,r3,r4,r5,r6⟩:=(HL.out.below T.bel).get K;have H:=zI (show l.take (q+1)=l.take q++[l[q]] from qam K);have G:=zI (J.out _ (qan K));have F:=zI (fun k=>qax (Jll n (l.take q) k) (show(l.take q).length<=900000 from by rw[qao];omega));generalize l[q]'K=x at*;have O:=zI (fun k=>Jm3 n (l.take q) x k);rw[<- H.out] at O;have d:=(qaa wr.heap.size wr).alloc (qab _) (.cells #[x.nm,(x.st:Int),(x.ag.c:Int),(x.ag.hi:Int),.int .u64 x.ag.lo,(x.ag.mn:Int),(x.ag.mx:Int)] 142);have r:=Bx.new wr 142 #[x.nm,(x.st:Int),(x.ag.c:Int),(x.ag.hi:Int),.int .u64 x.ag.lo,(x.ag.mn:Int),(x.ag.mx:Int)];obtain⟨gb,a⟩:=exE wr.heap.size;obtain⟨w5,Z⟩:=exE (wr.alloc (.cells #[x.nm,(x.st:Int),(x.ag.c:Int),(x.ag.hi:Int),.int .u64 x.ag.lo,(x.ag.mn:Int),(x.ag.mx:Int)] 142));rw[<- Z] at d r;rw[<- a] at r;have E:=zI (Jq0 x n w5 hn.1 G.out);have D:=zI (T.below d);have z:=zI r;have C:=zI a;have B:=zI Z;have hJ:=zI (Jm2 hn.1 x).2;clear T d r a Z;go_upto_region 5 with fail
    rw[<- B.out,<- C.out];clear r0 r1 r2 r3 r4 r5 r6;have t0:=z.out.at_ 0 rfl;have t1:=z.out.at_ 1 rfl;have t2:=z.out.at_ 2 rfl;have t3:=z.out.at_ 3 rfl;have t4:=z.out.at_ 4 rfl;have t5:=z.out.at_ 5 rfl;have t6:=z.out.at_ 6 rfl;go_wp2_with fail
    refine E.out.mono ?_;rintro e w6 ⟨rfl,Y⟩;obtain⟨k,L⟩:=exE (shO n x);rw[<- L];have W:=zI (D.out.below Y);have N:=zI (z.out.below Y);have t:k<n:=by rw[L];exact hJ.out
    have HK:=zI L;clear Y L t0 t1 t2 t3 t4 t5 t6;go_upto_region 6 with fail
    have V:=(qaa w6.heap.size w6).drew;have p:=((qaa w6.heap.size w6).alloc (qab _) (.cells #[x.nm,(x.st:Int),(x.ag.c:Int),(x.ag.hi:Int),.int .u64 x.ag.lo,(x.ag.mn:Int),(x.ag.mx:Int)] 142)).drew;have s:=zI (W.out.below p);have Ha:=N.out.below p;have y:=N.out.below V;have Hb:=zI p;have u0:=y.at_ 0 rfl;have u1:=y.at_ 1 rfl;have u2:=y.at_ 2 rfl;have u3:=y.at_ 3 rfl;have u4:=y.at_ 4 rfl;have u5:=y.at_ 5 rfl;have u6:=y.at_ 6 rfl;have ck:=(W.out.below V).at_ t;have ckA:=s.out.at_ t;have Hc:=zI ((Sl.new w6 142 w6.heap.size [x.nm,(x.st:Int),(x.ag.c:Int),(x.ag.hi:Int),.int .u64 x.ag.lo,(x.ag.mn:Int),(x.ag.mx:Int)] #[x.nm,(x.st:Int),(x.ag.c:Int),(x.ag.hi:Int),.int .u64 x.ag.lo,(x.ag.mn:Int),(x.ag.mx:Int)] rfl rfl).drew);have Hd:=zI (show ∀u∈([x.nm,(x.st:Int),(x.ag.c:Int),(x.ag.hi:Int),.int .u64 x.ag.lo,(x.ag.mn:Int),(x.ag.mx:Int)]:List Value),u.oneCell'=true from by intro u hu;simp at hu;rcases hu with rfl | rfl | rfl | rfl | rfl | rfl | rfl<;>rfl)
    have He:=zI (show(Ja4 n (l.take q) k).length+1<=1000000 from by have:=F.out k;omega);have Hf:=zI (show w.heap.size<=(w6.alloc (.cells #[x.nm,(x.st:Int),(x.ag.c:Int),(x.ag.hi:Int),.int .u64 x.ag.lo,(x.ag.mn:Int),(x.ag.mx:Int)] 142)).drew.heap.size from s.out.bel.size);clear V p Ha y
    go_region_law (first
     | (refine J8d (by rfl) _ _ (by rfl) (s.out.row k t) (by rfl) (some ⟨w6.heap.size,0,none⟩) 1 1 [x.nm,(x.st:Int),(x.ag.c:Int),(x.ag.hi:Int),.int .u64 x.ag.lo,(x.ag.mn:Int),(x.ag.mx:Int)] (by rfl) rfl Hc.out Hd.out He.out Hf.out ?_
        intro A7 c7 w9 M U o;have X9:=s.out.box.grown U (s.out.box.not_row (s.out.row k t) (by decide));have d8:=X9.at_ k (v:=cell k) (by simp[t]);have f8:=X9.free k))
    all_goals
     have hP:=W.out.put t x Hb.out U M o
     rw[show(fun i=>if i=k then Ja4 n (l.take q) i++[x] else Ja4 n (l.take q) i)=Ja4 n (l.take (q+1)) from by
      funext i
      rw[O.out i,<- HK.out];by_cases e:i=k
      · rw[qa0 e,qa0 e.symm]
      · rw[qay e,qay (fun h=>e h.symm)]] at hP
     have Hg:=zI hP;clear hP M U o X9;go_wp2_with fail
     go_roundw
     case rel=>exact⟨q+1,_,by omega,by go_num,Hg.out⟩
     case measure=>simp[intOf];omega
  · have Hm:q=m:=by omega
    have Hh:=zI (show l.take q=l from qap (by rw[S.out];omega));rw[Hh.out] at T;have Hi:=zI T;clear T;go_wp2_with fail
    go_ret;exact⟨gO,cell,rfl,Hi.out⟩
