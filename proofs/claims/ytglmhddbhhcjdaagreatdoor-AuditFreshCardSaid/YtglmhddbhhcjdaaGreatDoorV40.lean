/-
  Several texts in one: Tsame, Supr, Walw, Walx, Waly, Walr, Walz, Logp, Lga, Logq.
-/
import Derived.Test.YtglmhddbhhcjdaaGreatDoorV38
import Derived.Test.YtglmhddbhhcjdaaGreatDoorV30
set_option maxRecDepth 100000
set_option linter.unusedSimpArgs false
set_option maxHeartbeats 4000000
namespace Go.Proofs.YtglmhddbhhcjdaaGreatDoor
open Go.RowKit
open Go.Maps
def Jlo (s:ByteArray):Option (Nat×Nat×Nat) ->Prop
 | none=>s=strOf (zeros 256)
 | some (g,b,n)=>s=strOf (suB g b n)/\1<=g/\g<18446744073709551616/\64<=b/\b<=4096/\n<=40000
def bst (x:Nat×Nat×Nat):Option (Nat×Nat×Nat) ->Nat×Nat×Nat
 | none=>x
 | some y=>if x.1<y.1 then y else x
def supV (x:Nat×Nat×Nat) (e:Int):Value:= .tuple #[.agg #[.int .u64 (x.1:Int),(x.2.1:Int),(x.2.2:Int)],(e:Int)]
def supR (N:Nat) (x:Nat×Nat×Nat):Value:=if x.1=0\/x.2.1≠N then supV (0,0,0) 28 else supV x 0
def bsts (o0 o1:Option (Nat×Nat×Nat)):Nat ->Nat×Nat×Nat
 | 0=>(0,0,0)
 | 1=>bst (0,0,0) o0
 | _=>bst (bst (0,0,0) o0) o1
def nth2 (o0 o1:Option (Nat×Nat×Nat)) (k:Nat):Option (Nat×Nat×Nat):=if k=0 then o0 else o1
theorem J0p(o0 o1:Option (Nat×Nat×Nat)){k:Nat}(h:k<2):bsts o0 o1 (k+1)=bst (bsts o0 o1 k) (nth2 o0 o1 k):=by
 have:k=0\/k=1:=by omega
 rcases this with rfl | rfl<;>rfl
abbrev J4i (x:Nat×Nat×Nat):Array Value:=#[.int .u64 (x.1:Int),(x.2.1:Int),(x.2.2:Int)]
theorem Jwk{w:World}{F:Nat ->Prop}{g N n:Nat}{f fl:Int ->Option ByteArray}{ws:List (Int×ByteArray)}(h:DkAt w F g N n f fl ws)(hN:2<=N)(o0 o1:Option (Nat×Nat×Nat))(h0:Jlo (Jbd f 0) o0)(h1:Jlo (Jbd f 1) o1):
  Cs 130 #[g] w (RB w (supR N (bsts o0 o1 2))):=by
 have Hl:=zI (show ∀k:Nat,k<2 ->Jlo (Jbd f (k:Int)) (nth2 o0 o1 k) from fun k hk=>by
  have:k=0\/k=1:=by omega
  rcases this with rfl | rfl
  · exact h0
  · exact h1)
 have HD:=zI h;have R:=((qaa w.heap.size w).alloc (qab _) (.cells #[.int .u64 0,(0:Int),(0:Int)] 202));have C:=R.alloc R.size (.cells #[.int .u64 0,(0:Int),(0:Int)] 202);have A:=(Bx.new w 202 #[.int .u64 0,(0:Int),(0:Int)]).alloc (.cells #[.int .u64 0,(0:Int),(0:Int)] 202);have P:=Bx.new (w.alloc (.cells #[.int .u64 0,(0:Int),(0:Int)] 202)) 202 #[.int .u64 0,(0:Int),(0:Int)];rw[show(w.alloc (.cells #[.int .u64 0,(0:Int),(0:Int)] 202)).heap.size=w.heap.size+1 from by simp] at P;have Hm:=zI A;have Hn:=zI P;have Ho:=zI C;clear R C A P h h0 h1;go_enter Tryz.func130,Tryz.ntmps130;go_wp2_with fail
 go_loopw [10] (fun i wr=>∃k:Nat,k<=2/\i= .int .i64 (k:Int)/\Bx wr w.heap.size 202 #[.int .u64 0,(0:Int),(0:Int)]/\Bx wr (w.heap.size+1) 202 (J4i (bsts o0 o1 k))/\Below w.heap.size w wr) (fun i _=>2 - (intOf i).toNat)
 case atStart=>exact⟨0,by omega,rfl,Hm.out,Hn.out,Ho.out⟩
 case round=>
  obtain⟨k,hk,rfl,d,U,E⟩:=hrel;by_cases hJ:k<2
  · have D:=zI d
    have HY:=zI U;have T:=zI E;have Ha:=zI (Joa (HD.out.below E) k (by omega));have O:=Hl.out k hJ;have Z:=zI (J0p o0 o1 hJ);generalize Jbd f (k:Int)=S at*;generalize nth2 o0 o1 k=o at*;generalize bsts o0 o1 k=x at*;obtain⟨x',M⟩:=exE (bsts o0 o1 (k+1));rw[<- M] at Z;have L:=zI M;clear M;clear d U E;cases o with
    | none=>
      have HS:=zI (show S=strOf (zeros 256) from O);have HZ:=zI (show x'=x from Z.out);clear O Z;go_wp2_with fail
      refine Ha.out.mono ?_;rintro e w2 ⟨rfl,s⟩;have HG:=zI (J35 w2);have V:=zI (D.out.below s);have Y:=zI (HY.out.below s);have l:=zI (T.out.trans (s.mono T.out.size));rw[<- HS.out] at HG;clear s;go_wp2_with fail
      refine HG.out.mono ?_;rintro e w3 ⟨rfl,u⟩;have r:=u.alloc u.size (.cells #[.int .u64 0,(0:Int),(0:Int)] 202);have K:=zI (V.out.below r);have J:=zI (Y.out.below r);have I:=zI (l.out.trans (r.mono l.out.size));clear u r;go_wp2_with fail
      go_roundw
      case rel=>exact⟨k+1,by omega,by go_num,K.out,by rw[<- L.out,HZ.out];exact J.out,I.out⟩
      case measure=>simp[intOf];omega
    | some y=>
      obtain⟨gg,bb,nn⟩:=y;obtain⟨hS,y1,y2,y3,y4,y5⟩:=O;have HS:=zI hS;have Hp:=zI (fun W=>J7q gg bb nn W y1 y2 y3 y4 y5);clear hS y2 y3 y4 y5;go_wp2_with fail
      refine Ha.out.mono ?_;rintro e w2 ⟨rfl,s⟩;have HG:=zI (Hp.out w2);have V:=zI (D.out.below s);have Y:=zI (HY.out.below s);have l:=zI (T.out.trans (s.mono T.out.size));rw[<- HS.out] at HG;clear s;go_wp2_with fail
      refine HG.out.mono ?_;rintro e w3 ⟨rfl,u⟩;have r:=u.alloc u.size (.cells #[.int .u64 (gg:Int),(bb:Int),(nn:Int)] 202);have K:=zI (V.out.below r);have J:=zI (Y.out.below r);have I:=zI (l.out.trans (r.mono l.out.size));have p:=Y.out.below u;have Hq:=zI p;have Hr:=zI (V.out.below u);have Hb:=zI (l.out.trans (u.mono l.out.size));have t0:=p.at_ 0 rfl;have t1:=p.at_ 1 rfl;have t2:=p.at_ 2 rfl;have f0:=p.free 0;have f1:=p.free 1;have f2:=p.free 2;have Hu:w.heap.size+1<w3.heap.size:=qar Y.out.lt u.size;clear u r p;by_cases Hc:x.1<gg
      · have HZ:=zI (show x'=(gg,bb,nn) from by rw[Z.out];exact qa2 Hc)
        go_wp2_with fail
        have H:=Jao (B:=w.heap.size) [.int .u64 (gg:Int),(bb:Int),(nn:Int)] (g:=w.heap.size+1) (by omega) w3 0;have Hd:=Jb8 (g:=w.heap.size+1) [.int .u64 (gg:Int),(bb:Int),(nn:Int)] w3 0;have He:=Ja1 Hq.out [.int .u64 (gg:Int),(bb:Int),(nn:Int)] rfl;have Hf:=Hr.out.chg Hd (by omega);have Hg:=zI (Hf.alloc (.cells #[.int .u64 (gg:Int),(bb:Int),(nn:Int)] 202));have Hh:=zI (He.alloc (.cells #[.int .u64 (gg:Int),(bb:Int),(nn:Int)] 202));have Hi:=zI (Hb.out.trans (H.alloc (qat Hb.out.size H.size) (.cells #[.int .u64 (gg:Int),(bb:Int),(nn:Int)] 202)));simp only[putC,qa9,Nat.reduceAdd] at Hg Hh Hi;clear H Hd He Hf;go_roundw
        case rel=>exact⟨k+1,by omega,by go_num,Hg.out,by rw[<- L.out,HZ.out];exact Hh.out,Hi.out⟩
        case measure=>simp[intOf];omega
      · have HZ:=zI (show x'=x from by rw[Z.out];exact qav Hc)
        go_wp2_with fail
        go_roundw
        case rel=>exact⟨k+1,by omega,by go_num,K.out,by rw[<- L.out,HZ.out];exact J.out,I.out⟩
        case measure=>simp[intOf];omega
  · have Hs:k=2:=by omega
    subst Hs;have Hj:=zI (show ∀x,x=bsts o0 o1 2 ->supR N (bsts o0 o1 2)=if x.1=0\/x.2.1≠N then supV (0,0,0) 28 else supV x 0 from fun x d=>by rw[d];rfl);obtain⟨x,G⟩:=exE (bsts o0 o1 2);have HR:=zI (Hj.out x G);rw[<- G] at U;have D:=zI d;have HY:=zI U;have T:=zI E;have Hk:=zI (show ∀q,Cs 36 #[g] (wr.drewN q) fun e w'=>e= .returned (N:Int)/\w'=wr.drewN q from fun q=>(Jmg (HD.out.below (below_drewN E q))).mono (fun _ _ ⟨h1,h2⟩=>⟨h1,h2.symm⟩));have t0:=U.at_ 0 rfl;have t1:=U.at_ 1 rfl;have t2:=U.at_ 2 rfl;have r0:=d.at_ 0 rfl;have r1:=d.at_ 1 rfl;have r2:=d.at_ 2 rfl;have f0:=d.free 0;have f1:=d.free 1;have f2:=d.free 2;obtain⟨a,b,c⟩:=x;simp only at t0 t1 t2 HR;clear d U E G Hj;by_cases ha:a=0
    · have HV:=zI (show supR N (bsts o0 o1 2)=supV (0,0,0) 28 from by rw[HR.out,qa2 (.inl ha)])
      have d0:((a:Int)==0)=true:=by rw[beq_iff_eq];omega
      go_wp2_with fail
      go_quiet (fail)
      go_wp2_with fail
      obtain⟨w9,t⟩:=exE (putC (wr.drewN nq) w.heap.size 0 [.int .u64 0,(0:Int),(0:Int)]);have z:=Ja1 (D.out.below (below_drewN (qaa _ _) nq)) [.int .u64 0,(0:Int),(0:Int)] rfl;have m:=Jao (B:=w.heap.size) [.int .u64 0,(0:Int),(0:Int)] (qab _) (wr.drewN nq) 0;rw[<- t] at z m;simp only[putC,qa9,Nat.reduceAdd] at t;rw[<- t];have q0:=z.at_ 0 rfl;have q1:=z.at_ 1 rfl;have q2:=z.at_ 2 rfl;rw[HV.out];exact qa7 (v:=supV (0,0,0) 28) (by simp[results,Tryz.results130,go_sem,q0,q1,q2,supV]) rfl ⟨rfl,(below_drewN T.out nq).trans m⟩
    · have d0:((a:Int)==0)=false:=by rw[qaw];omega
      by_cases j:b=N
      · have HV:=zI (show supR N (bsts o0 o1 2)=supV (a,b,c) 0 from by rw[HR.out,qav];intro h;rcases h with h | h;exact ha h;exact h j)
        have d1:((b:Int) !=(N:Int))=false:=by rw[j];simp
        have Ht:=zI j;clear j;go_wp2_with fail
        go_quiet ((go_at_call 36;exact Calls.quiet_of_same (Hk.out _)))
        go_wp2_with fail
        obtain⟨w9,t⟩:=exE (putC (wr.drewN nq) w.heap.size 0 [.int .u64 (a:Int),(b:Int),(c:Int)]);have z:=Ja1 (D.out.below (below_drewN (qaa _ _) nq)) [.int .u64 (a:Int),(b:Int),(c:Int)] rfl;have m:=Jao (B:=w.heap.size) [.int .u64 (a:Int),(b:Int),(c:Int)] (qab _) (wr.drewN nq) 0;rw[<- t] at z m;simp only[putC,qa9,Nat.reduceAdd] at t;rw[<- t];have q0:=z.at_ 0 rfl;have q1:=z.at_ 1 rfl;have q2:=z.at_ 2 rfl;rw[HV.out];exact qa7 (v:=supV (a,b,c) 0) (by simp[results,Tryz.results130,go_sem,q0,q1,q2,supV]) rfl ⟨rfl,(below_drewN T.out nq).trans m⟩
      · have HV:=zI (show supR N (bsts o0 o1 2)=supV (0,0,0) 28 from by rw[HR.out,qa2 (.inr j)])
        have d1:((b:Int) !=(N:Int))=true:=by rw[bne_iff_ne];omega
        have Ht:=zI j;clear j;go_wp2_with fail
        go_quiet ((go_at_call 36;exact Calls.quiet_of_same (Hk.out _)))
        go_wp2_with fail
        obtain⟨w9,t⟩:=exE (putC (wr.drewN nq) w.heap.size 0 [.int .u64 0,(0:Int),(0:Int)]);have z:=Ja1 (D.out.below (below_drewN (qaa _ _) nq)) [.int .u64 0,(0:Int),(0:Int)] rfl;have m:=Jao (B:=w.heap.size) [.int .u64 0,(0:Int),(0:Int)] (qab _) (wr.drewN nq) 0;rw[<- t] at z m;simp only[putC,qa9,Nat.reduceAdd] at t;rw[<- t];have q0:=z.at_ 0 rfl;have q1:=z.at_ 1 rfl;have q2:=z.at_ 2 rfl;rw[HV.out];exact qa7 (v:=supV (0,0,0) 28) (by simp[results,Tryz.results130,go_sem,q0,q1,q2,supV]) rfl ⟨rfl,(below_drewN T.out nq).trans m⟩
end Go.Proofs.YtglmhddbhhcjdaaGreatDoor
namespace Go.Proofs.YtglmhddbhhcjdaaGreatDoor
open Go.RowKit
def fldN (b:ByteArray) (i:Nat):Nat:=leN ((b.data.toList.drop i).take 2)
def wOf (bs:List ByteArray):Nat:=fldN (bs.headD ByteArray.empty) 18
def wCat (bs:List ByteArray):List UInt8:=bs.flatMap fun b=>b.data.toList.drop 32
def wRec (bs:List ByteArray):List UInt8:=(wCat (bs.take (wOf bs))).take (224*wOf bs - 224+fldN ((bs.take (wOf bs)).getLastD ByteArray.empty) 20)
def Ja9 (gen number:Nat) (bs:List ByteArray):Option (List UInt8×Nat):=
 if wOf bs<1\/bs.length<wOf bs then none
 else if 224<fldN ((bs.take (wOf bs)).getLastD ByteArray.empty) 20 then none
 else if 3000<(wRec bs).length\/wlL gen number (wRec bs)≠bs.take (wOf bs) then none
 else some (wRec bs,wOf bs)
theorem J0q(l:List UInt8):leN (l.take 2)<65536:=by
 have h:=Jou (l.take 2);have:(l.take 2).length<=2:=by rw[qap];omega
 have z:256 ^ (l.take 2).length<=256 ^ 2:=qcl (by omega) this;omega
theorem Jsv(b:ByteArray)(i:Nat):fldN b i<65536:=J0q _
theorem Jgp(l:List UInt8)(k:Nat)(h:k<=l.length):l=le k (leN (l.take k))++l.drop k:=by
 have e:(l.take k).length=k:=by rw[qap];omega
 have:=J8w (l.take k);rw[e] at this;rw[this,qbe]
theorem Jwl(l:List UInt8)(h:l.length=28):∃a b c r,l=le 8 a++(le 4 b++(le 2 c++(le 2 (leN ((l.drop 14).take 2))++(le 2 (leN ((l.drop 16).take 2))++r))))/\a<18446744073709551616/\b<4294967296/\c<65536/\r.length=10:=by
 refine⟨leN (l.take 8),leN ((l.drop 8).take 4),leN ((l.drop 12).take 2),l.drop 18,?_,?_,?_,J0q _,by rw[qa4];omega⟩
 · have e1:=Jgp l 8 (by omega)
   have e2:=Jgp (l.drop 8) 4 (by rw[qa4];omega);have e3:=Jgp (l.drop 12) 2 (by rw[qa4];omega);have e4:=Jgp (l.drop 14) 2 (by rw[qa4];omega);have e5:=Jgp (l.drop 16) 2 (by rw[qa4];omega);rw[qdi] at e2 e3 e4 e5;rw[<- e5,<- e4,<- e3,<- e2,<- e1]
 · have z:=Jou (l.take 8)
   rw[show(l.take 8).length=8 from by rw[qap];omega] at z;exact z
 · have z:=Jou ((l.drop 8).take 4)
   rw[show((l.drop 8).take 4).length=4 from by rw[qap,qa4];omega] at z;exact z
theorem Juo:∀bs:List ByteArray,(∀b∈bs,b.size=256) ->(wCat bs).length=224*bs.length
 | [],_=>rfl
 | b::r,h=>by
   unfold wCat;rw[qas,qad,qa4];have z:=Juo r (fun x hx=>h x (by simp[hx]));unfold wCat at z;have y:b.data.toList.length=256:=h b (by simp);rw[z,y,qa3];omega
theorem J0r(bs:List ByteArray)(b:ByteArray):wCat (bs++[b])=wCat bs++b.data.toList.drop 32:=by simp[wCat]
theorem J4j(b:ByteArray)(i:Nat)(h:b.size=256):b.extract i 256=strOf (b.data.toList.drop i):=by
 apply ByteArray.ext;rw[qco];unfold strOf;apply Array.toList_inj.1;rw[Array.toList_extract];simp only[List.extract_eq_take_drop];rw[qao];rw[qa4];have:b.data.toList.length=256:=h;omega
theorem Joi(b:ByteArray)(i j:Nat):b.extract i j=strOf ((b.data.toList.drop i).take (j - i)):=by
 apply ByteArray.ext;rw[qco];unfold strOf;apply Array.toList_inj.1;rw[Array.toList_extract]
theorem J0s(b:ByteArray)(i k:Nat)(h:i<=k)(h2:k+2<=32):leN (((((b.data.toList.drop i).take (32 - i))).drop (k - i)).take 2)=fldN b k:=by
 unfold fldN;rw[List.drop_take,qdi,List.take_take,show i+(k - i)=k from by omega,show min 2 (32 - i - (k - i))=2 from by omega]
def J0t (o:Option (List UInt8×Nat)):Value:=match o with
 | none=> .tuple #[ByteArray.empty,(0:Int)]
 | some (s,k)=> .tuple #[strOf s,(k:Int)]
theorem J0u(gen number:Nat)(A:Option Addr)(n c:Nat)(bs:List ByteArray)(w:World)(hs:Strs w A n bs)(hsz:∀b∈bs,b.size=256)(hn:1<=n/\n<=16)(hc:n<=c)(hg:gen<18446744073709551616)(hnum:number<65536):
  Cs 223 #[.int .u64 (gen:Int),(number:Int),.slice A n c] w (RB w (J0t (Ja9 gen number bs))):=by
 have hl:=hs.len;obtain⟨b,off,rfl,t,Hc⟩:=hs.get (j:=0) (by omega);obtain⟨b0,o⟩:=exE (bs[0]'(by omega));rw[<- o,qdf] at Hc;have J:b0.size=256:=hsz b0 (by rw[o];exact qal _)
 have Hd:bs.headD ByteArray.empty=b0:=by
  cases bs with
  | nil=>simp at hl;omega
  | cons x r=>rw[o];rfl
 obtain⟨a1,a2,a3,r,m,I,h2,h3,h4⟩:=Jwl ((b0.data.toList.drop 4).take 28) (by
  rw[qap,qa4];have:b0.data.toList.length=256:=J;omega)
 obtain⟨of,V⟩:=exE (wOf bs)
 have e4:leN ((((b0.data.toList.drop 4).take 28).drop 14).take 2)=of:=by
  rw[V];unfold wOf;rw[Hd];exact J0s b0 4 18 (by omega) (by omega)
 obtain⟨f0,U⟩:=exE (fldN b0 20)
 have e5:leN ((((b0.data.toList.drop 4).take 28).drop 16).take 2)=f0:=by
  rw[U];exact J0s b0 4 20 (by omega) (by omega)
 rw[e4,e5] at m;have He:of<65536:=by rw[V];exact Jsv _ _
 have Hf:f0<65536:=by rw[U];exact Jsv _ _
 have HX:=zI (show b0.extract 4 32=strOf (le 8 a1++(le 4 a2++(le 2 a3++(le 2 of++(le 2 f0++r))))) from by rw[Joi,<- m]);have HF:=zI (ReadW.from_ w (qaa _ w) (le 8 a1++(le 4 a2++(le 2 a3++(le 2 of++(le 2 f0++r))))) (by simp[h4]));have HS:=zI hs;have H:=zI hsz;have z:=zI V;have Kh:=zI o;have Ki:=zI U;have T:=zI hl;have KH:b0.size=256:=J;clear hs hsz o J Hd m e4 e5 V U;go_enter Tryz.func223,Tryz.ntmps223;go_wp2_with fail
 rw[HX.out];refine HF.out.mono ?_;rintro e w1 ⟨gu,rfl,Hg⟩;have HW:=zI (Hg.word a1 _ I (by simp[h4]));clear Hg;go_wp2_with fail
 refine HW.out.mono ?_;rintro e w2 ⟨rfl,Hh⟩;have Hi:=zI (Hh.small 4 a2 _ (.inr (.inr rfl)) h2 (by simp[h4]));clear Hh;go_wp2_with fail
 refine Hi.out.mono ?_;rintro e w3 ⟨rfl,Hj⟩;have Hk:=zI (Hj.small 2 a3 _ (.inr (.inl rfl)) h3 (by simp[h4]));clear Hj;go_wp2_with fail
 refine Hk.out.mono ?_;rintro e w4 ⟨rfl,Hl⟩;have Hm:=zI (Hl.small 2 of _ (.inr (.inl rfl)) He (by simp[h4]));clear Hl;go_wp2_with fail
 refine Hm.out.mono ?_;rintro e w5 ⟨rfl,G⟩;have Kj:=zI G;have Kk:=G.below;have F:=zI Kk;clear G HW Hi Hk Hm HF I h2 h3 Hc t;by_cases Kl:of<1
 · have d1:decide ((of:Int)<1)=true:=qan (by omega)
   have HV:=zI (show Ja9 gen number bs=none from by unfold Ja9;rw[<- z.out,qa2 (.inl Kl)]);go_wp2_with fail
   go_ret2;exact⟨by rw[HV.out];rfl,F.out⟩
 have d1:decide ((of:Int)<1)=false:=qae (by omega);by_cases Km:n<of
 · have d2:decide ((n:Int)<(of:Int))=true:=qan (by omega)
   have HV:=zI (show Ja9 gen number bs=none from by unfold Ja9;rw[<- z.out,qa2 (.inr (by rw[T.out];exact Km))]);go_wp2_with fail
   go_ret2;exact⟨by rw[HV.out];rfl,F.out⟩
 have d2:decide ((n:Int)<(of:Int))=false:=qae (by omega);have KI:of<=n:=by omega
 have KJ:of<=c:=by omega
 have Kn:∃wo:World,wo=w5:=⟨_,rfl⟩;go_wp2_with fail
 go_loopw [10,42] (fun x i wr=>∃q:Nat,q<=of/\i= .int .i64 (q:Int)/\x= .string (strOf (wCat (bs.take q)))/\w5=wr) (fun _ i _=>of - (intOf i).toNat)
 case atStart=>exact⟨0,qaq _,rfl,rfl,rfl⟩
 case round =>
  obtain⟨q,hq,rfl,rfl,E⟩:=hrel;subst E
  have S:(wCat (bs.take q)).length=224*q:=by
   rw[Juo _ (fun x hx=>H.out x (qbr hx)),qap,T.out];omega
  by_cases t:q<of
  · have l:q<bs.length:=by rw[T.out];omega
    obtain⟨b',off',e,y,Hn⟩:=(HS.out.below F.out).get (j:=q) l;cases e
    have P:(bs[q]).size=256:=H.out _ (qal _);have D:=zI (J4j (bs[q]) 32 P)
    have Ko:=zI (show strOf (wCat (bs.take q))++strOf ((bs[q]).data.toList.drop 32)=strOf (wCat (bs.take (q+1))) from by
     rw[qak l,J0r];apply Ja7;simp[strOf])
    have O:(strOf (wCat (bs.take q))).size=224*q:=(by rw[Jab,S])
    have KM:(strOf ((bs[q]).data.toList.drop 32)).size=224:=by
     rw[Jab,qa4];have:(bs[q]).data.toList.length=256:=P;omega
    generalize strOf (wCat (bs.take q))=X at*;generalize strOf ((bs[q]).data.toList.drop 32)=Y at*;generalize bs[q]=bq at*;have KN: ¬ 9223372036854775807<X.size+224:=(by omega);have KO:=zI O;clear O;go_wp2_with fail
    go_roundw
    case rel=>exact⟨q+1,by omega,by go_num,by rw[D.out,Ko.out],by first | rfl | trivial⟩
    case measure=>simp[intOf];omega
  · have Kp :q=of:=by omega
    subst Kp;have Kq:=zI (Kj.out.small 2 f0 r (.inr (.inl rfl)) Hf (by simp[h4]));obtain⟨nl,N⟩:=exE (fldN ((bs.take q).getLastD ByteArray.empty) 20);have l:q - 1<bs.length:=by rw[T.out];omega
    have g:(bs.take q).getLastD ByteArray.empty=bs[q - 1]:=by
     rw[List.getLastD_eq_getLast?,List.getLast?_take,qav (by omega),qam l];rfl
    have Ho:=zI (show nl=fldN (bs[q - 1]) 20 from by rw[N,g]);have Hp:nl<65536:=by rw[N];exact Jsv _ _
    have f:=zI N;have Kr:=zI S;have L:(strOf (wCat (bs.take q))).size=224*q:=(by rw[Jab,S]);have Hq:=zI L;obtain⟨X,hX⟩:=exE (strOf (wCat (bs.take q)));rw[<- hX] at Hq ⊢;have HX:=zI hX;clear N g S L hX Kn;go_wp2_with fail
    refine Kq.out.mono ?_;rintro e w6 ⟨rfl,h6⟩;have M:=zI h6.below;clear h6;go_upto_if 54 with fail
    go_cut [13] (fun s13 wx=>s13= .int .i64 (nl:Int)/\Below w.heap.size w wx)
    case first=>
     by_cases Ks:q=1
     · subst Ks
       have he:nl=f0:=(by rw[Ho.out,Ki.out,Kh.out]);have HE:=zI he;clear he;go_wp2_with fail
       go_meet;exact⟨by rw[HE.out],M.out⟩
     · have d5:decide ((1:Int)<(q:Int))=true:=qan (by omega)
       obtain⟨b',off',e,y,Hn⟩:=(HS.out.below M.out).get (j:=q - 1) l;cases e
       have P:(bs[q - 1]).size=256:=H.out _ (qal _)
       have Hr:(((bs[q - 1]).data.toList.drop 20).take 12).length=12:=by
        rw[qap,qa4];have:(bs[q - 1]).data.toList.length=256:=P;omega
       have C:=Jgp (((bs[q - 1]).data.toList.drop 20).take 12) 2 (by omega)
       have Hs:leN ((((bs[q - 1]).data.toList.drop 20).take 12).take 2)=nl:=by
        rw[Ho.out];have:=J0s (bs[q - 1]) 20 20 (by omega) (by omega)
        simpa using this
       rw[Hs] at C;have D:=zI (show(bs[q - 1]).extract 20 32=strOf (le 2 nl++(((bs[q - 1]).data.toList.drop 20).take 12).drop 2) from by rw[Joi,<- C]);have KP:((((bs[q - 1]).data.toList.drop 20).take 12).drop 2).length<=100:=by rw[qa4];omega
       generalize (((bs[q - 1]).data.toList.drop 20).take 12).drop 2=R at*;generalize bs[q - 1]=bq at*;have HF:=zI (ReadW.from_ w6 (qaa _ w6) (le 2 nl++R) (by simp;omega));have KQ:IntKind.i64.wrap ((q:Int) - 1)=((q - 1:Nat):Int):=by rw[qbd _ (by omega)];omega
       have KK:q - 1<n:=(by omega);clear C Hs Hr y;go_wp2_with fail
       rw[D.out];refine HF.out.mono ?_;rintro e w7 ⟨g7,rfl,h7⟩;have Kt:=zI (h7.small 2 nl R (.inr (.inl rfl)) Hp (by omega));clear h7;go_wp2_with fail
       refine Kt.out.mono ?_;rintro e w8 ⟨rfl,h8⟩;have Ku:=zI (M.out.trans (h8.below.mono M.out.size));clear h8;go_wp2_with fail
       go_meet;exact⟨rfl,Ku.out⟩
    case rest=>
     obtain⟨rfl,Ht⟩:=hcut;have B:=zI Ht;clear Ht;by_cases d:224<nl
     · have d6:decide ((224:Int)<(nl:Int))=true:=qan (by omega)
       have HV:=zI (show Ja9 gen number bs=none from by unfold Ja9;rw[<- z.out,qav (by rw[T.out];omega),<- f.out,qa2 d]);go_wp2_with fail
       go_ret2;exact⟨by rw[HV.out];rfl,B.out⟩
     have d6:decide ((224:Int)<(nl:Int))=false:=qae (by omega);have O:=Hq.out;obtain⟨s,hs⟩:=exE (wRec bs)
     have Hu:s.length=224*q - 224+nl:=by
      rw[hs];unfold wRec;rw[<- z.out,<- f.out,qap,Kr.out];omega
     have Hv:X.extract 0 (224*q - 224+nl)=strOf s:=by
      rw[hs];unfold wRec;rw[<- z.out,<- f.out,Joi,HX.out];rfl
     obtain⟨k,hk⟩:=exE s.length;rw[<- hk] at Hu;have Hw:=zI (J0e gen number s wc (by omega) hg hnum);have hZ:(strOf s).size=k:=(by rw[Jab,hk]);have KL:k<=3600:=(by omega);rw[<- hk] at Hw;have Kv:=zI Hv;have Hx:=zI hs;have HK:=zI hk;have Kw:224*q - 224+nl<=X.size:=(by omega);have HZ:=zI hZ;clear hs Hv hk Hu hZ;go_wp2_with fail
     rw[Kv.out];refine Hw.out.mono ?_;rintro e w9 ⟨v,rfl,Hy,Hz⟩;obtain⟨A2,c2,rfl,K⟩:=Jap Hy;have a:=zI (B.out.trans (Hz.mono B.out.size));have Kx:=zI K;have hZ:=HZ.out;have Ky:Hid ((bs.take q).length=q):=zI (by rw[qap,T.out];omega)
     have hJ:=zI (show 3000<k\/wlL gen number s≠bs.take q ->Ja9 gen number bs=none from fun h=>by
      unfold Ja9;rw[<- z.out,qav (by rw[T.out];omega),<- f.out,qav d,<- Hx.out,<- HK.out,qa2 h])
     have Kz:=zI (show ¬ 3000<k ->wlL gen number s=bs.take q ->Ja9 gen number bs=some (s,q) from fun I h2=>by
      unfold Ja9;rw[<- z.out,qav (by rw[T.out];omega),<- f.out,qav d,<- Hx.out,<- HK.out,qav (fun h=>h.elim I (fun h3=>h3 h2))])
     have W:=zI (Jdy gen number s);rw[<- HK.out] at W;clear Hy K Hz Kw O;obtain⟨N2,Ha⟩:=exE (wlN k);rw[<- Ha] at W ⊢;have KR:Hid (N2<=20):=zI (by rw[Ha];unfold wlN;split<;>omega)
     clear Ha;obtain⟨Z,Hb⟩:=exE (strOf s);rw[<- Hb] at hZ ⊢;have KC:=zI Hb;clear Hb;by_cases H0:3000<k
     · have d7:decide ((3000:Int)<(k:Int))=true:=qan (by omega)
       go_wp2_with fail
       go_ret2;exact⟨by rw[hJ.out (.inl H0)];rfl,a.out⟩
     have d7:decide ((3000:Int)<(k:Int))=false:=qae (by omega);by_cases H9:N2=q
     · subst H9
       have Ka:=zI (show 1<=N2/\N2<=n/\N2<=bs.length from by rw[T.out];omega);go_wp2_with fail
       go_loopw [87] (fun i wr=>∃j:Nat,j<=N2/\i= .int .i64 (j:Int)/\(∀p,p<j ->(wlL gen number s)[p]? =bs[p]?)/\w9=wr) (fun i _=>N2 - (intOf i).toNat)
       case atStart=>exact⟨0,qaq _,rfl,fun p hp=>by omega,rfl⟩
       case round=>
        obtain⟨j,hj,rfl,u,E⟩:=hrel;subst E;by_cases t:j<N2
        · have Kb:j<bs.length:=by have:=Ka.out;omega
          have Kc:j<(wlL gen number s).length:=by rw[W.out];exact t
          have KS:j<n:=by have:=Ka.out;omega
          obtain⟨b',off',e,y,Hn⟩:=(HS.out.below a.out).get (j:=j) Kb;cases e
          obtain⟨b2,off2,e2,Kd,KD⟩:=Kx.out.get (j:=j) (by rw[qa0];exact Kc);rw[qbt] at KD;subst e2;have Ke:=zI (qam Kb);have Kf:=zI (qam Kc);generalize bs[j]=y1 at*;generalize (wlL gen number s)[j]=y2 at*;have Kg:=zI u;clear u y Kd;by_cases hy:y2=y1
          · subst hy
            go_wp2_with fail
            go_roundw
            case rel=>exact⟨j+1,by omega,by go_num,fun p hp=>by
             by_cases e:p=j
             · subst e;rw[Ke.out,Kf.out]
             · exact Kg.out p (by omega),by first | rfl | trivial⟩
            case measure=>simp[intOf];omega
          · have KT:(y2.toList==y1.toList)=false:=qaw.2 (fun e=>hy (bytes_inj e))
            go_wp2_with fail
            go_ret2
            exact⟨by rw[hJ.out (.inr (fun h=>hy (by
             have I:(wlL gen number s)[j]? =(bs.take N2)[j]? :=(by rw[h]);rw[List.getElem?_take,qa2 t,Ke.out,Kf.out] at I;exact qc3 I)))];rfl,a.out⟩
        · have KE:j=N2:=by omega
          subst KE
          have KG:=zI (show wlL gen number s=bs.take j from by
           apply qc9;intro p;by_cases hp:p<j
           · rw[u p hp,List.getElem?_take,qa2 hp]
           · rw[qbg (by rw[W.out];omega),List.getElem?_take,qav hp])
          clear u;go_wp2_with fail
          go_ret2;exact⟨by rw[Kz.out H0 KG.out,KC.out];rfl,a.out⟩
     · have d8:((N2:Int)==(q:Int))=false:=by rw[qaw];omega
       go_wp2_with fail
       go_ret2;exact⟨by rw[hJ.out (.inr (fun h=>H9 (by have:=congrArg List.length h;rw[W.out,Ky.out] at this;exact this)))];rfl,a.out⟩
def rdL (f:Int ->Option ByteArray) (a k:Nat):List Value:=(List.range k).map fun q=>Value.string (Jbd f ((a+q:Nat):Int))
theorem J4k(f:Int ->Option ByteArray)(a k:Nat):rdL f a (k+1)=rdL f a k++[.string (Jbd f ((a+k:Nat):Int))]:=by
 unfold rdL;rw[qb9,qbf];rfl
def rdB (f:Int ->Option ByteArray) (a k:Nat):List ByteArray:=(List.range k).map fun q=>Jbd f ((a+q:Nat):Int)
def recV (gen:Nat):Nat ->Nat ->List ByteArray ->List (List UInt8)
 | 0,_,_=>[]
 | n+1,num,bs=>if bs=[] then [] else match Ja9 gen num bs with
   | none=>[]
   | some (s,k)=>s::recV gen n (num+1) (bs.drop k)
def logV (gen:Nat) (bs:List ByteArray):List (List UInt8):=recV gen bs.length 0 bs
theorem Jgq{gen num:Nat}{bs:List ByteArray}{s:List UInt8}{k:Nat}(h:Ja9 gen num bs=some (s,k)):1<=k/\k<=bs.length:=by
 unfold Ja9 at h;split at h
 · cases h
 · split at h
   · cases h
   · split at h
     · cases h
     · cases h;omega
theorem Jq0(gen:Nat):∀ (n m num:Nat) (bs:List ByteArray),bs.length<=n ->bs.length<=m ->recV gen n num bs=recV gen m num bs
 | 0,0,_,_,_,_=>rfl
 | 0,m+1,num,bs,h,_=>by
   have:bs=[]:=qa1 (by omega);subst this;simp[recV]
 | n+1,0,num,bs,_,h=>by
   have:bs=[]:=qa1 (by omega);subst this;simp[recV]
 | n + 1,m+1,num,bs,h1,h2=>by
   unfold recV;by_cases e:bs=[]
   · rw[qa2 e,qa2 e]
   · rw[qav e,qav e]
     cases hw:Ja9 gen num bs with
     | none=>rfl
     | some x=>
       obtain⟨s,k⟩:=x;have z:=Jgq hw;show s::_=s::_;rw[Jq0 gen n m (num+1) (bs.drop k) (by rw[qa4];omega) (by rw[qa4];omega)]
theorem J4l(gen n num:Nat):recV gen n num []=[]:=by cases n<;>simp[recV]
theorem Jq1{gen n num:Nat}{bs:List ByteArray}(h:Ja9 gen num bs=none):recV gen n num bs=[]:=by
 cases n with
 | zero=>rfl
 | succ n=>unfold recV;rw[h];split<;>rfl
theorem Jq2{gen n num:Nat}{bs:List ByteArray}{s:List UInt8}{k:Nat}(hn:bs.length<=n)(h:Ja9 gen num bs=some (s,k)):recV gen n num bs=s::recV gen n (num+1) (bs.drop k):=by
 have z:=Jgq h;cases n with
 | zero=>omega
 | succ n=>
   have e:recV gen (n+1) num bs=s::recV gen n (num+1) (bs.drop k):=by
    show(if bs=[] then [] else _)=_;rw[qav (fun e=>by subst e;simp at z;omega),h]
   rw[e,Jq0 gen n (n+1) (num+1) (bs.drop k) (by rw[qa4];omega) (by rw[qa4];omega)]
theorem J79{w:World}{B:Nat}{e:TypeId}{k n c:Nat}{A:Option Addr}{xs:List Value}(h:w.ownsRow B e k (.slice A n c) n xs):n<=c:=by
 rcases h.2 with⟨e1,e2⟩ | ⟨g,cap,cur,e1,_,_,z,_⟩
 · cases e1;omega
 · cases e1;exact z
theorem Strs.dropC{w:World}{b off n:Nat}{bs:List ByteArray}(h:Strs w (some ⟨b,off,none⟩) n bs)(p:Nat)(hp:p<=n):Strs w (some ⟨b,off+p,none⟩) (n - p) (bs.drop p):=by
 refine⟨⟨fun hne=> ?_⟩,by rw[qa4,h.len],by have:=h.n_le;omega,fun s hs=>h.size s (qcw hs)⟩
 have x:p<bs.length:=by
  have:bs.drop p≠[]:=fun e=>hne (by rw[e];rfl);rw[Ne,List.drop_eq_nil_iff] at this;omega
 obtain⟨b',off',e,z,_⟩:=h.get x;cases e
 refine⟨b,off+p,rfl,z,fun j u hu=> ?_⟩;rw[List.map_drop,List.getElem?_drop] at hu;have y:p+j<bs.length:=by have:=(qbo.1 hu).1;simpa using this
 obtain⟨b',off',e,_,v⟩:=h.get y;cases e
 rw[qb7,qam y] at hu;cases hu
 rw[show off+p+j=off+(p+j) from by omega];exact v
theorem J4m{F:Nat ->Prop}{g N n0:Nat}{f fl:Int ->Option ByteArray}{ws:List (Int×ByteArray)}(w:World)(h:DkAt w F g N n0 f fl ws)(a k gen:Nat)(hk:1<=k)(ha:a+k<=N)(hk16:k<=16)(hgen:1<=gen)(hg2:gen<18446744073709551616):
  Cs 135 #[g,(a:Int),(k:Int),.int .u64 (gen:Int)] w fun e w'=>∃v,e= .returned (.tuple #[v,(0:Int)])/\w'.ownsRow w.heap.size 9 1 v (logV gen (rdB f a k)).length ((logV gen (rdB f a k)).map fun l=>Value.string (strOf l))/\Below w.heap.size w w':=by
 have hN:=h.size;have HR:=zI (Jpy ⟨g,0,none⟩ k gen w (by omega) hgen);have HD:=zI (fun W (hW:Below w.heap.size w W) j (hj:j<N)=>Joa (h.below hW) j hj);have A:=zI (fun j=>h.read_size j);clear h hgen;go_enter Tryz.func135,Tryz.ntmps135;go_wp2_with fail
 refine HR.out.mono ?_;rintro e w1 ⟨rfl,hw⟩;subst hw;go_wp2_with fail
 go_loopw [10,23] (fun v j wr=>∃q:Nat,q<=k/\j= .int .i64 (q:Int)/\wr.ownsRow w.heap.size 9 1 v q (rdL f a q)/\Below w.heap.size w wr) (fun _ j _=>k - (intOf j).toNat)
 case atStart=>exact⟨0,qaq _,rfl,qax _ _ _ _,qaa _ _⟩
 case round=>
  obtain⟨q,hq,rfl,z,r⟩:=hrel;by_cases Kb:q<k
  · have HQ:=zI (HD.out _ r (a+q) (by omega))
    have HS:=zI (J4k f a q);have HA:=zI (show IntKind.i64.wrap ((a:Int)+(q:Int))=((a+q:Nat):Int) from by rw[qbd _ (by omega)];omega);have B:=zI z;have T:=zI r;have HK:=zI (show q+1<=1000000 from by omega);generalize Jbd f ((a+q:Nat):Int)=Z at*;obtain⟨aq,hJ⟩:∃aq,aq=a+q:=⟨_,rfl⟩;rw[<- hJ] at HQ HA;clear z r hJ;have hA:=HA.out;go_wp2_with fail
    refine HQ.out.mono ?_;rintro e w2 ⟨rfl,S⟩;have R:=S.alloc S.size (.cells #[Z] 9);have P:=zI (Sl.new w2 9 w2.heap.size [Z] #[Z] rfl rfl);have O:=zI (show ∀u∈([Z]:List Value),u.oneCell'=true from by intro u hu;rw[qaz.1 hu];rfl);have Ha:=zI (Jah B.out R);have M:=zI (T.out.trans (R.mono T.out.size));clear S R hA;go_wp2_with (at_builtin;refine Jj6 rfl _ _ rfl Ha.out rfl (some ⟨w2.heap.size,0,none⟩) 1 1 [Z] rfl rfl P.out O.out HK.out M.out.size ?_;intro A' c' w5 Hb Hl)
    have Hm:=Jbw Ha.out Hl M.out M.out.size;rw[<- HS.out] at Hb;go_roundw
    case rel=>exact⟨q+1,by omega,by go_num,Hb,Hm⟩
    case measure=>simp[intOf];omega
  · have Hn:q=k:=by omega
    subst Hn;obtain⟨A',c',rfl,L⟩:=Jap z
    have Hc:rdL f a q≠[]:=fun e=>by
     have:=congrArg List.length e;unfold rdL at this;rw[qa0,List.length_range] at this;simp at this;omega
    obtain⟨b,off,rfl,Ho,K⟩:=L.at_ Hc;obtain⟨bs,t⟩:=exE (rdB f a q);have o:bs.length=q:=by rw[t];simp[rdB]
    have Hp:q<=c':=J79 z
    have J:Strs wr (some ⟨b,off,none⟩) q bs:=⟨by
     rw[t];have:(rdB f a q).map Value.string=rdL f a q:=by unfold rdB rdL;rw[qch];rfl
     rw[this];exact L,o,by unfold maxLen;omega,fun x hx=>by
     rw[t] at hx;unfold rdB at hx;obtain⟨j,_,rfl⟩:=qbm.1 hx;rw[A.out];unfold maxLen;omega⟩
    have Hd:∀x∈bs,x.size=256:=fun x hx=>by
     rw[t] at hx;unfold rdB at hx;obtain⟨j,_,rfl⟩:=qbm.1 hx;exact A.out _
    obtain⟨w1,He⟩:=exE wr;rw[<- He] at J r ⊢;have Hq:=zI J;have Hr:=zI Hd;have Hf:=zI t;have T:=zI r;have i:=zI o;clear z L Hc K r He J Hd t Ho o;go_wp2_with fail
    go_loopw [10,11] (fun v u wr=>∃ (p:Nat) (outs:List (List UInt8)) (Av:Option Addr),p<=q/\v= .slice Av (q - p) (c' - p)/\(p<q ->Av=some ⟨b,off+p,none⟩)/\wr.ownsRow w1.heap.size 9 1 u outs.length (outs.map fun l=>Value.string (strOf l))/\logV gen bs=outs++recV gen q outs.length (bs.drop p)/\outs.length<=p/\Below w1.heap.size w1 wr) (fun v _ _=>(match v with | .slice _ n _=>n | _=>0))
    case atStart=>exact⟨0,[],_,qaq _,rfl,fun _=>rfl,qax _ _ _ _,by unfold logV;rw[i.out];rfl,qab _,qaa _ _⟩
    case round=>
     obtain⟨p,outs,Av,hp,rfl,I,d,c,Hg,r⟩:=hrel;obtain⟨A3,c3,rfl,Hh⟩:=Jap d;have Y:=zI c;have B:=zI d;have Hi:=zI r;have H:=zI (T.out.trans (r.mono T.out.size));obtain⟨m,hm⟩:=exE outs.length;rw[<- hm] at Hg d B Y ⊢;have HM:=zI hm;by_cases Hs:p<q
     · obtain rfl:=I Hs
       clear I;have d1:decide ((0:Int)<((q - p:Nat):Int))=true:=qan (by omega);have d2:decide (0<q - p)=true:=qan (by omega);have Hj:(bs.drop p).length<=16:=by rw[qa4,i.out];omega
       have V:=zI (J0u gen m (some ⟨b,off+p,none⟩) (q - p) (c' - p) (bs.drop p) wr ((Hq.out.below r).dropC p hp) (fun x hx=>Hr.out x (qcw hx)) (by omega) (by omega) hg2 (by omega));have Ht:=zI (show(bs.drop p).length<=q from by rw[qa4,i.out];omega);clear d c r hm Hh Hj;cases hwv:Ja9 gen m (bs.drop p) with
       | none=>
         rw[hwv] at V;have G:=zI (Jq1 (n:=q) hwv);unfold J0t at V;dsimp only at V;clear hwv;go_wp2_with fail
         refine V.out.mono ?_;rintro e w6 ⟨rfl,y⟩;have Hu:=zI (Jah B.out y);have Hv:=zI (H.out.trans (y.mono H.out.size));have E:=zI T.out.size;clear y;go_wp2_with fail
         go_ret2;refine⟨_,rfl,?_,Hv.out⟩;rw[<- Hf.out,Y.out,G.out,qbk,<- HM.out];exact Jc9 Hu.out E.out
       | some x=>
         obtain⟨s,kk⟩:=x;have U:=Jgq hwv;rw[qa4,i.out] at U;rw[hwv] at V;have Hw:=zI (Jq2 Ht.out hwv);unfold J0t at V;dsimp only at V;clear hwv;have Kc:((kk:Int)==0)=false:=by rw[qaw];omega
         go_wp2_with fail
         refine V.out.mono ?_;rintro e w6 ⟨rfl,y⟩;obtain⟨Z,hZ⟩:∃Z,Z=strOf s:=⟨_,rfl⟩;rw[<- hZ];have HZ:=zI hZ;have D:=y.alloc y.size (.cells #[.string Z] 9);have P:=zI (Sl.new w6 9 w6.heap.size [.string Z] #[.string Z] rfl rfl);have O:=zI (show ∀u∈([.string Z]:List Value),u.oneCell'=true from by intro u hu;rw[qaz.1 hu];rfl);have Hk:=zI (Jah B.out D);have C:=zI (Hi.out.trans (D.mono Hi.out.size));have HK:=zI (show m+1<=1000000 from by omega);have Kd:kk<=q - p:=U.2;have Ka:q<=c':=Hp;clear y D hZ;go_wp2_with (first | fail | (at_builtin;refine Jj6 rfl _ _ rfl Hk.out rfl (some ⟨w6.heap.size,0,none⟩) 1 1 [.string Z] rfl rfl P.out O.out HK.out C.out.size ?_;intro A' c'' w8 Hx Hy))
         have Hz:=Jbw Hk.out Hy C.out C.out.size;go_roundw
         case rel=>exact⟨p+kk,outs++[s],_,by omega,by rw[Nat.sub_sub,Nat.sub_sub],fun h=>by rw[qav (by omega),qcc],by
          rw[qad,qbf,<- HM.out];show w8.ownsRow _ _ _ _ (m+1) (_++[Value.string (strOf s)]);rw[<- HZ.out];exact Hx,by
          rw[Y.out,Hw.out,qdi,qad,<- HM.out,qa5];rfl,by rw[qad,<- HM.out];simp;omega,Hz⟩
         case measure=>simp;omega
     · have H0:p=q:=by omega
       subst H0;have E:=zI T.out.size;have G:=zI (show recV gen p m (bs.drop p)=[] from by rw[qci (by rw[i.out];exact qab _)];exact J4l _ _ _);have H9:p - p=0:=Nat.sub_self p;clear d c r hm Hh I;rw[H9];go_wp2_with fail
       go_ret2;refine⟨_,rfl,?_,H.out⟩;rw[<- Hf.out,Y.out,G.out,qbk,<- HM.out];exact Jc9 B.out E.out
theorem Jet(l:List UInt8):(strOf l).data.toList=l:=by unfold strOf;simp
theorem J8a(gen number place of:Nat)(l:List UInt8):(wlBk gen number place of l).drop 32=l++zeros (224 - l.length):=by
 unfold wlBk;rw[qcr (by rw[Jjk];omega),qci (by rw[Jjk];omega),qcf]
theorem Kaa(gen number place of n:Nat)(r:List UInt8)(h:of<65536):leN (((wlHd gen number place of n++r).drop 18).take 2)=of:=by
 unfold wlHd wlM;have e:([87,76,79,71]++(le 8 gen++(le 4 number++(le 2 place++(le 2 of++(le 2 n++zeros 10)))))++r:List UInt8)=([87,76,79,71]++le 8 gen++le 4 number++le 2 place)++(le 2 of++(le 2 n++zeros 10++r)):=by simp[qa5]
 rw[e,qcr (by simp),qci (by simp),qcf,qcp (by simp),qao (by simp)];exact Jdc (by simpa using h)
theorem hd_n(gen number place of n:Nat)(r:List UInt8)(h:n<65536):leN (((wlHd gen number place of n++r).drop 20).take 2)=n:=by
 unfold wlHd wlM;have e:([87,76,79,71]++(le 8 gen++(le 4 number++(le 2 place++(le 2 of++(le 2 n++zeros 10)))))++r:List UInt8)=([87,76,79,71]++le 8 gen++le 4 number++le 2 place++le 2 of)++(le 2 n++(zeros 10++r)):=by simp[qa5]
 rw[e,qcr (by simp),qci (by simp),qcf,qcp (by simp),qao (by simp)];exact Jdc (by simpa using h)
theorem Kab{gen number place of:Nat}{l:List UInt8}(h:of<65536):fldN (strOf (wlBk gen number place of l)) 18=of:=by
 unfold fldN;rw[Jet];exact Kaa gen number place of l.length _ h
theorem bk_n{gen number place of:Nat}{l:List UInt8}(h:l.length<65536):fldN (strOf (wlBk gen number place of l)) 20=l.length:=by
 unfold fldN;rw[Jet];exact hd_n gen number place of l.length _ h
theorem J9o{g g' m m' p p' o o':Nat}{l l':List UInt8}(hg:g<18446744073709551616)(hg':g'<18446744073709551616)(hm:m<4294967296)(hm':m'<4294967296)(h:wlBk g m p o l=wlBk g' m' p' o' l'):g=g'/\m=m':=by
 unfold wlBk wlHd wlM at h;simp only[qa5] at h;have y:=List.append_inj_right h rfl;have z:=List.append_inj y (by simp);have x:=List.append_inj z.2 (by simp);refine⟨?_,?_⟩
 · have:=congrArg leN z.1
   rwa [Jdc (by simpa using hg),Jdc (by simpa using hg')] at this
 · have:=congrArg leN x.1
   rwa [Jdc (by simpa using hm),Jdc (by simpa using hm')] at this
theorem Jup(n:Nat):1<=wlN n/\224*(wlN n - 1)<=n/\n<=224*wlN n/\(n=0 ->wlN n=1):=by unfold wlN;split<;>omega
theorem Jix{gen num:Nat}{bs:List ByteArray}{s:List UInt8}{k:Nat}(h:Ja9 gen num bs=some (s,k)):∃b r,bs=b::r/\b=strOf (wlBk gen num 0 (wlN s.length) (wlPt s 0)):=by
 have y:=Jgq h;unfold Ja9 at h;split at h
 · cases h
 · split at h
   · cases h
   · split at h
     · cases h
     · next hc=>
       simp only[not_or,Decidable.not_not] at hc;injection h with h;injection h with x w;rw[x,w] at hc;cases bs with
       | nil=>simp at y;omega
       | cons b r=>
         refine⟨b,r,rfl,?_⟩;have z:(wlL gen num s)[0]? =((b::r).take k)[0]? :=(by rw[hc.2]);rw[List.getElem?_take,qa2 (by omega)] at z;unfold wlL at z;rw[qb7,qda (by have:=Jup s.length;omega)] at z;exact(qc3 z).symm
theorem Jsw(gen num:Nat)(r:List ByteArray):Ja9 gen num (strOf (zeros 256)::r)=none:=by
 cases h:Ja9 gen num (strOf (zeros 256)::r) with
 | none=>rfl
 | some x=>
   obtain⟨s,k⟩:=x;obtain⟨b,r',e,y⟩:=Jix h;cases e
   have z:=congrArg (fun b:ByteArray=>b.data.toList.head?) y;simp only[Jet] at z;have w:(zeros 256).head? =some 0:=by rw[show(256:Nat)=255+1 from rfl];rfl
   rw[w] at z;have v:(wlBk gen num 0 (wlN s.length) (wlPt s 0)).head? =some 87:=rfl;rw[v] at z;exact absurd (qc3 z) (by decide)
theorem Jsx{gen num g m p o:Nat}{l:List UInt8}(r:List ByteArray)(hg:gen<18446744073709551616)(hg':g<18446744073709551616)(hm:num<4294967296)(hm':m<4294967296)(hne:g≠gen\/m≠num):Ja9 gen num (strOf (wlBk g m p o l)::r)=none:=by
 cases h:Ja9 gen num (strOf (wlBk g m p o l)::r) with
 | none=>rfl
 | some x=>
   obtain⟨s,k⟩:=x;obtain⟨b,r',e,y⟩:=Jix h;cases e
   have z:=congrArg (fun b:ByteArray=>b.data.toList) y;simp only[Jet] at z;obtain⟨e1,e2⟩:=J9o hg' hg hm' hm z;omega
theorem J0v(gen num:Nat):Ja9 gen num []=none:=by
 cases h:Ja9 gen num [] with
 | none=>rfl
 | some x=>
   obtain⟨s,k⟩:=x;obtain⟨b,r',e,z⟩:=Jix h;cases e
theorem Jmt(s:List UInt8):∀q,224*q<=s.length ->((List.range q).flatMap fun p=>wlPt s p++zeros (224 - (wlPt s p).length))=s.take (224*q)
 | 0,_=>by simp
 | q+1,h=>by
   have z:(wlPt s q).length=224:=by unfold wlPt;rw[qap,qa4];omega
   rw[qb9,qay,Jmt s q (by omega)];simp only[qas,qbq,qbk,z,Nat.sub_self];rw[show zeros 0=[] from rfl,qbk];unfold wlPt;rw[Nat.mul_succ,List.take_add]
theorem J4n(gen num:Nat)(s:List UInt8):wCat (wlL gen num s)=s++zeros (224*wlN s.length - s.length):=by
 have z:=Jup s.length;unfold wCat wlL;rw[List.flatMap_map]
 have e:((List.range (wlN s.length)).flatMap fun p=>(strOf (wlBk gen num p (wlN s.length) (wlPt s p))).data.toList.drop 32)=(List.range (wlN s.length)).flatMap fun p=>wlPt s p++zeros (224 - (wlPt s p).length):=by
  simp only[Jet,J8a]
 rw[e];obtain⟨n,y⟩:∃n,wlN s.length=n+1:=⟨wlN s.length - 1,by omega⟩;rw[y] at z ⊢;rw[qb9,qay,Jmt s n (by omega)];simp only[qas,qbq,qbk]
 have x:wlPt s n=s.drop (224*n):=by
  unfold wlPt;rw[qao (by rw[qa4];omega)]
 rw[x,<- qa5,qbe,qa4]
 congr 2
 omega
theorem Jwm(gen num:Nat)(s:List UInt8)(rest:List ByteArray)(hs:s.length<=3000):Ja9 gen num (wlL gen num s++rest)=some (s,wlN s.length):=by
 have q:=Jup s.length;have z:=Jdy gen num s
 have r:(wlL gen num s++rest).headD ByteArray.empty=strOf (wlBk gen num 0 (wlN s.length) (wlPt s 0)):=by
  have:(wlL gen num s++rest)[0]? =some (strOf (wlBk gen num 0 (wlN s.length) (wlPt s 0))):=by
   rw[qcb (by rw[z];omega)];unfold wlL;rw[qb7,qda (by omega)];rfl
  rw[List.headD_eq_head?_getD,List.head?_eq_getElem?,this];rfl
 have y:wOf (wlL gen num s++rest)=wlN s.length:=by
  unfold wOf;rw[r];exact Kab (by omega)
 have x:(wlL gen num s++rest).take (wlN s.length)=wlL gen num s:=by
  rw[qcp (by rw[z];exact qab _),qao (by rw[z];exact qab _)]
 have u:(wlL gen num s).getLastD ByteArray.empty=strOf (wlBk gen num (wlN s.length - 1) (wlN s.length) (wlPt s (wlN s.length - 1))):=by
  rw[List.getLastD_eq_getLast?,List.getLast?_eq_getElem?,z];unfold wlL;rw[qb7,qda (by omega)];rfl
 have w:(wlPt s (wlN s.length - 1)).length=s.length - 224*(wlN s.length - 1):=by
  unfold wlPt;rw[qap,qa4];omega
 have t:fldN ((wlL gen num s).getLastD ByteArray.empty) 20=s.length - 224*(wlN s.length - 1):=by
  rw[u,bk_n (by rw[w];omega),w]
 have v:wRec (wlL gen num s++rest)=s:=by
  unfold wRec;rw[y,x,t,J4n,show 224*wlN s.length - 224+(s.length - 224*(wlN s.length - 1))=s.length from by omega,qcp (qab _),qao (qab _)]
 unfold Ja9;rw[y,qav (by rw[qad,z];omega),x,t,qav (by omega),v,qav (by simp;omega)]
def layAll (gen:Nat):Nat ->List (List UInt8) ->List ByteArray
 | _,[]=>[]
 | num,s::r=>wlL gen num s++layAll gen (num+1) r
theorem Jq3(gen:Nat):∀ (rs:List (List UInt8)) (n num:Nat) (rest:List ByteArray),(∀s∈rs,s.length<=3000) ->Ja9 gen (num+rs.length) rest=none ->(layAll gen num rs++rest).length<=n ->recV gen n num (layAll gen num rs++rest)=rs
 | [],n,num,rest,_,h,_=>by
   show recV gen n num rest=[];exact Jq1 (by simpa using h)
 | s::r,n,num,rest,hs,h,hn=>by
   show recV gen n num (wlL gen num s++layAll gen (num+1) r++rest)=_;rw[qa5];have z:(wlL gen num s++(layAll gen (num+1) r++rest)).length<=n:=by rw[<- qa5];exact hn
   rw[Jq2 z (Jwm gen num s _ (hs s (by simp)))];rw[qcr (by rw[Jdy];exact qab _),qci (by rw[Jdy];exact qab _),qcf];rw[Jq3 gen r n (num+1) rest (fun x hx=>hs x (by simp[hx])) (by rw[<- h];congr 1;simp;omega) (by rw[qad] at z;omega)]
theorem J0w(gen:Nat)(rs:List (List UInt8))(rest:List ByteArray)(hs:∀s∈rs,s.length<=3000)(h:Ja9 gen rs.length rest=none):logV gen (layAll gen 0 rs++rest)=rs:=by
 unfold logV;exact Jq3 gen rs _ 0 rest hs (by simpa using h) (qab _)
abbrev lgCs (g fr n gen used recs:Nat):Array Value:=#[g,(fr:Int),(n:Int),.int .u64 (gen:Int),(used:Int),(recs:Int),(0:Int)]
structure LgW (w0:World) (F:Nat ->Prop) (w:World) (gl g N q:Nat) (f:Int ->Option ByteArray) (fr n gen used recs:Nat):Prop where
 dk:DsAt w (grow F w0 w) g N q f
 bx:Bx w gl 286 (lgCs g fr n gen used recs)
 chg:Chg (fun b=>F b\/b=gl) w0 w
 ins:Ins F w0
 nf: ¬ F gl
 lt:gl<w0.heap.size
section
variable {w0 w w':World} {F:Nat ->Prop} {gl g N q fr n gen used recs:Nat} {f:Int ->Option ByteArray}
theorem LgW.start(h:DsAt w F g N q f)(hb:Bx w gl 286 (lgCs g fr n gen used recs))(hn: ¬ F gl):LgW w F w gl g N q f fr n gen used recs:=
 ⟨h.sub (fun _=> .inl) (h.ins.grow (qab _)),hb,Chg.refl _ _,h.ins,hn,hb.lt⟩
theorem LgW.below(h:LgW w0 F w gl g N q f fr n gen used recs)(hb:Below w.heap.size w w'):LgW w0 F w' gl g N q f fr n gen used recs:=
 ⟨(h.dk.below hb).sub (fun _ x=>Jcg x hb.size) (h.ins.grow (qat h.chg.size hb.size)),h.bx.below hb,h.chg.then_below hb,h.ins,h.nf,h.lt⟩
theorem LgW.out(h:LgW w0 F w gl g N q f fr n gen used recs): ¬ grow F w0 w gl:=fun x=>x.elim h.nf fun y=>by have:=h.lt;have:=y.1;omega
theorem LgW.turn{q':Nat}{f':Int ->Option ByteArray}(h:LgW w0 F w gl g N q f fr n gen used recs)(k:DsW w (grow F w0 w) w' g N q' f'):LgW w0 F w' gl g N q' f' fr n gen used recs:=
 ⟨by have:=k.at_;rwa [grow_grow F h.chg.size k.chg.size] at this,h.bx.chg k.chg h.out,h.chg.trans k.chg (fun b hb=>hb.elim (fun x=> .inl (.inl x)) (fun x=> .inr x.1)),h.ins,h.nf,h.lt⟩
theorem LgW.write(h:LgW w0 F w gl g N q f fr n gen used recs)(k:Nat)(hk:k<N)(s:ByteArray)(hs:s.size=256)(hq:q<=900000):
  Cs 28 #[g,(k:Int),s] w fun e w'=>e= .returned (0:Int)/\LgW w0 F w' gl g N (q+2) (setS f k s) fr n gen used recs:=by
 refine((DsW.start h.dk).write k hk s hs hq).mono ?_;rintro e w' ⟨rfl,z⟩;exact⟨rfl,h.turn z⟩
theorem LgW.flush(h:LgW w0 F w gl g N q f fr n gen used recs)(hq:q<=900000):
  Cs 161 #[g] w fun e w'=>e= .returned (0:Int)/\LgW w0 F w' gl g N q f fr n gen used recs:=by
 refine((DsW.start h.dk).flush hq).mono ?_;rintro e w' ⟨rfl,z⟩;exact⟨rfl,h.turn z⟩
theorem LgW.set(h:LgW w0 F w gl g N q f fr n gen used recs)(i:Nat)(u:Value){used' recs':Nat}(he:(lgCs g fr n gen used recs).setIfInBounds i u=lgCs g fr n gen used' recs'):LgW w0 F (w.setCell ⟨gl,i,none⟩ u) gl g N q f fr n gen used' recs':=by
 have z:Chg (fun b=>b=gl) w (w.setCell ⟨gl,i,none⟩ u):=Chg.set w _ _ rfl;refine⟨(h.dk.chg z (fun b hb e=>h.out (by rw[<- e];exact hb))).sub (fun _ x=>Jcg x z.size) (h.ins.grow (qat h.chg.size z.size)),he ▸ h.bx.set i u,h.chg.trans z (fun b e=> .inl (.inr e)),h.ins,h.nf,h.lt⟩
theorem LgW.setUsed(h:LgW w0 F w gl g N q f fr n gen used recs)(u:Nat):LgW w0 F (w.setCell ⟨gl,4,none⟩ (u:Int)) gl g N q f fr n gen u recs:=h.set 4 _ rfl
theorem LgW.setRecs(h:LgW w0 F w gl g N q f fr n gen used recs)(r:Nat):LgW w0 F (w.setCell ⟨gl,5,none⟩ (r:Int)) gl g N q f fr n gen used r:=h.set 5 _ rfl
theorem LgW.bad0(h:LgW w0 F w gl g N q f fr n gen used recs):LgW w0 F (w.setCell ⟨gl,6,none⟩ (0:Int)) gl g N q f fr n gen used recs:=h.set 6 _ rfl
theorem LgW.cells(h:LgW w0 F w gl g N q f fr n gen used recs):w.cell? ⟨gl,0,none⟩=some (.pointer (some ⟨g,0,none⟩))/\w.cell? ⟨gl,1,none⟩=some (.int .i64 (fr:Int))/\w.cell? ⟨gl,2,none⟩=some (.int .i64 (n:Int))/\w.cell? ⟨gl,3,none⟩=some (.int .u64 (gen:Int))/\w.cell? ⟨gl,4,none⟩=some (.int .i64 (used:Int))/\w.cell? ⟨gl,5,none⟩=some (.int .i64 (recs:Int))/\w.cell? ⟨gl,6,none⟩=some (.int .i64 0):=
 ⟨h.bx.at_ 0 rfl,h.bx.at_ 1 rfl,h.bx.at_ 2 rfl,h.bx.at_ 3 rfl,h.bx.at_ 4 rfl,h.bx.at_ 5 rfl,h.bx.at_ 6 rfl⟩
end
def Jb6 (f:Int ->Option ByteArray) (a:Nat):List ByteArray ->Int ->Option ByteArray
 | []=>f
 | b::r=>Jb6 (setS f (a:Int) b) (a+1) r
theorem Jk5:∀ (bs:List ByteArray) (f:Int ->Option ByteArray) (a:Nat) (b:ByteArray),Jb6 f a (bs++[b])=setS (Jb6 f a bs) ((a+bs.length:Nat):Int) b
 | [],f,a,b=>rfl
 | c::r,f,a,b=>by
   show Jb6 (setS f (a:Int) c) (a+1) (r++[b])=setS (Jb6 (setS f (a:Int) c) (a+1) r) _ b;rw[Jk5 r]
   congr 2
   simp only[qa3];omega
theorem Jeu:∀ (bs:List ByteArray) (f:Int ->Option ByteArray) (a:Nat) (z:Int),z<(a:Int)\/((a+bs.length:Nat):Int)<=z ->Jb6 f a bs z=f z
 | [],_,_,_,_=>rfl
 | b::r,f,a,z,h=>by
   show Jb6 (setS f (a:Int) b) (a+1) r z=f z;simp only[qa3] at h;rw[Jeu r _ _ z (by omega)];unfold setS;rw[qav (by omega)]
theorem Jmu:∀ (bs:List ByteArray) (f:Int ->Option ByteArray) (a j:Nat) (hj:j<bs.length),Jb6 f a bs ((a+j:Nat):Int)=some bs[j]
 | b::r,f,a,0,_=>by
   show Jb6 (setS f (a:Int) b) (a+1) r _=_;rw[Jeu r _ _ _ (by omega)];unfold setS;rw[qa2 (by omega)];rfl
 | b::r,f,a,j+1,hj=>by
   show Jb6 (setS f (a:Int) b) (a+1) r _=_;rw[show a+(j+1)=a+1+j from by omega,Jmu r _ (a+1) j (by simpa using hj)];rfl
def J4o (gen:Nat) (b:ByteArray):Prop:=b=strOf (zeros 256)\/∃g m p o l,b=strOf (wlBk g m p o l)/\g<gen/\m<65536
theorem J4o.whole{gen num:Nat}{rest:List ByteArray}(h:∀b∈rest,J4o gen b)(hg:gen<18446744073709551616)(hn:num<65536):Ja9 gen num rest=none:=by
 cases rest with
 | nil=>exact J0v gen num
 | cons b r=>
   rcases h b (by simp) with e | ⟨g,m,p,o,l,e,z,y⟩
   · rw[e];exact Jsw gen num r
   · rw[e];exact Jsx r hg (by omega) (by omega) (by omega) (.inl (by omega))
theorem Jfe(gen:Nat)(s:List UInt8):∀ (rs:List (List UInt8)) (num:Nat),layAll gen num (rs++[s])=layAll gen num rs++wlL gen (num+rs.length) s
 | [],num=>by
   show wlL gen num s++[]=[]++wlL gen (num+0) s
   simp
 | x::r,num=>by
   show wlL gen num x++layAll gen (num+1) (r++[s])=(wlL gen num x++layAll gen (num+1) r)++_;rw[Jfe gen s r,qa5]
   congr 3
   simp only[qa3];omega
theorem Jq4(gen:Nat):∀ (rs:List (List UInt8)) (num:Nat),rs.length<=(layAll gen num rs).length
 | [],_=>qab _
 | x::r,num=>by
   show _<=(wlL gen num x++layAll gen (num+1) r).length;have:=Jq4 gen r (num+1);have:=Jup x.length;rw[qad,Jdy,qa3];omega
theorem Jhf(f:Int ->Option ByteArray)(a k:Nat):(rdB f a k).length=k:=by simp[rdB]
structure Jdz (f:Int ->Option ByteArray) (a gen:Nat) (rs:List (List UInt8)):Prop where
 ex:∃rest,rdB f a 16=layAll gen 0 rs++rest/\∀b∈rest,J4o gen b
 short:∀s∈rs,s.length<=3000
section
variable {f f':Int ->Option ByteArray} {a gen:Nat} {rs:List (List UInt8)}
theorem Jdz.used(h:Jdz f a gen rs):(layAll gen 0 rs).length<=16:=by
 obtain⟨rest,e,_⟩:=h.ex;have:=congrArg List.length e;rw[Jhf,qad] at this;omega
theorem Jdz.few(h:Jdz f a gen rs):rs.length<=16:=qat (Jq4 gen rs 0) h.used
theorem Jdz.read(h:Jdz f a gen rs)(hg:gen<18446744073709551616):logV gen (rdB f a 16)=rs:=by
 obtain⟨rest,e,z⟩:=h.ex;rw[e];exact J0w gen rs rest h.short (J4o.whole z hg (by have:=h.few;omega))
theorem Jdz.far(h:Jdz f a gen rs)(hf:∀q,q<16 ->f' ((a+q:Nat):Int)=f ((a+q:Nat):Int)):Jdz f' a gen rs:=by
 obtain⟨rest,e,z⟩:=h.ex;refine⟨⟨rest,?_,z⟩,h.short⟩;rw[<- e];unfold rdB;refine qcs fun q hq=> ?_;unfold Jbd;rw[hf q (qca.1 hq)]
theorem Jdz.zero(hf:∀q,q<16 ->Jbd f ((a+q:Nat):Int)=strOf (zeros 256)):Jdz f a gen []:=by
 refine⟨⟨rdB f a 16,rfl,fun b hb=> ?_⟩,fun s hs=>by cases hs⟩;unfold rdB at hb;obtain⟨q,z,e⟩:=qbm.1 hb;exact .inl (by rw[<- e];exact hf q (qca.1 z))
theorem J4p(f:Int ->Option ByteArray)(a u n:Nat)(bs:List ByteArray)(h:u+bs.length<=n):rdB (Jb6 f (a+u) bs) a n=(rdB f a n).take u++(bs++(rdB f a n).drop (u+bs.length)):=by
 apply qc5
 · rw[Jhf,qad,qad,qap,qa4,Jhf]
   omega
 · intro q z s
   rw[Jhf] at z;have w:(rdB (Jb6 f (a+u) bs) a n)[q]'(by rw[Jhf];exact z)=Jbd (Jb6 f (a+u) bs) ((a+q:Nat):Int):=by simp[rdB]
   rw[w];have x:∀ (j:Nat) (hj:j<n),(rdB f a n)[j]'(by rw[Jhf];exact hj)=Jbd f ((a+j:Nat):Int):=fun j hj=>by simp[rdB]
   have y:((rdB f a n).take u).length=u:=by rw[qap,Jhf];omega
   by_cases v:q<u
   · rw[qdn (by rw[y];exact v),List.getElem_take,x q z]
     unfold Jbd;rw[Jeu _ _ _ _ (by omega)]
   · rw[List.getElem_append_right (by rw[y];omega)]
     simp only[y];by_cases t:q<u+bs.length
     · rw[qdn (by omega)]
       have:=Jmu bs f (a+u) (q - u) (by omega);rw[show a+u+(q - u)=a+q from by omega] at this;unfold Jbd;rw[this];rfl
     · rw[List.getElem_append_right (by omega),List.getElem_drop,x _ (by omega)]
       unfold Jbd;rw[Jeu _ _ _ _ (by omega)];rw[show u+bs.length+(q - u - bs.length)=q from by omega]
theorem Jdz.put(h:Jdz f a gen rs)(s:List UInt8)(hs:s.length<=3000)(hf:(layAll gen 0 rs).length+wlN s.length<=16):Jdz (Jb6 f (a+(layAll gen 0 rs).length) (wlL gen rs.length s)) a gen (rs++[s]):=by
 obtain⟨rest,e,y⟩:=h.ex;refine⟨⟨rest.drop (wlN s.length),?_,fun b hb=>y b (qcw hb)⟩,fun x z=> ?_⟩
 · rw[J4p _ _ _ _ _ (by rw[Jdy];exact hf),e,Jfe,qa9,List.take_left',qa5,Jdy]
   · congr 2
     rw[<- qdi,List.drop_left'];rfl
   · rfl
 · rcases qbc.1 z with z | z
   · exact h.short x z
   · rw[qaz.1 z];exact hs
end
end Go.Proofs.YtglmhddbhhcjdaaGreatDoor
