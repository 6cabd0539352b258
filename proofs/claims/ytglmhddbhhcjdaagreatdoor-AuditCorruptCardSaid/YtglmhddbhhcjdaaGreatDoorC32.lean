/- Laws that the walk of the last text wants. -/
import Derived.Test.YtglmhddbhhcjdaaGreatDoorRows
import Derived.Test.YtglmhddbhhcjdaaGreatDoorC24
import Derived.Test.YtglmhddbhhcjdaaGreatDoorC28
set_option maxRecDepth 100000
set_option linter.unusedSimpArgs false
set_option maxHeartbeats 4000000
namespace Go.Proofs.YtglmhddbhhcjdaaGreatDoor
open Go.ChangeShapes Go.WideShapes Go.ChangeAt Go.RowKit Go.Deep
theorem J0w(A B:Option Addr)(n c d:Nat)(l:List Rc)(w:World)(hA:Rcs w A n l)(hB:Rcs w B n l):
  Cs 68 #[.slice A n c,.slice B n d] w fun e w'=>e= .returned (true:Bool)/\∃q,w'=w.drewN q:=by
 have t:=hA.n_le;unfold maxLen at t;have s:=zI hA.len;go_enter Tryz.func68,Tryz.ntmps68;go_wp2_with fail
 obtain⟨w6,y⟩:=exE w;subst y;go_loopw [5,13] (fun _ i wr=>∃j:Nat,j<=n/\i= .int .i64 j/\Below w6.heap.size w6 wr/\Hid (∃q,wr=w6.drewN q)) (fun _ i _=>n - (intOf i).toNat)
 case atStart=>exact⟨0,qaq _,rfl,qaa _ _,zI ⟨0,rfl⟩⟩
 case round=>
  obtain⟨j,o,rfl,z,u⟩:=hrel;by_cases v:j<n
  · have K:j<l.length:=by rw[s.out];exact v
    obtain⟨g1,o1,rfl,m,X⟩:=(hA.below z).get K;obtain⟨g2,o2,rfl,r,Y⟩:=(hB.below z).get K;obtain⟨r0,r1,r2,r3,r4,r5,r6⟩:=X;obtain⟨s0,s1,s2,s3,s4,s5,s6⟩:=Y;generalize l[j]'K=x at*;have g0:(0:Int)<=(j:Int):=(by omega);have g1:(j:Int)<(n:Int):=(by omega);go_wp2_with fail
    go_quiet (fail)
    go_wp2_with fail
    go_roundw
    case rel=>exact⟨j+1,by omega,by go_num,below_drewN z _,zI (by obtain⟨q,p⟩:=u.out;exact⟨q+nq,by rw[p,World.drewN_drewN]⟩)⟩
    case measure=>simp[intOf];omega
  · have k:decide ((j:Int)<(n:Int))=false:=qae (by omega)
    go_wp2_with fail
    go_ret;exact⟨rfl,u.out⟩
end Go.Proofs.YtglmhddbhhcjdaaGreatDoor
namespace Go.Proofs.YtglmhddbhhcjdaaGreatDoor
open Go.RowKit
open Go.Maps
def Jl4 (s:ByteArray):Option (Nat×Nat×Nat) ->Prop
 | none=>s=strOf (zeros 256)
 | some (g,b,n)=>s=strOf (suB g b n)/\1<=g/\g<18446744073709551616/\64<=b/\b<=4096/\n<=40000
def bst (x:Nat×Nat×Nat):Option (Nat×Nat×Nat) ->Nat×Nat×Nat
 | none=>x
 | some y=>if x.1<y.1 then y else x
def supV (x:Nat×Nat×Nat) (e:Int):Value:= .tuple #[.agg #[.int .u64 (x.1:Int),(x.2.1:Int),(x.2.2:Int)],(e:Int)]
def supR (N:Nat) (x:Nat×Nat×Nat):Value:=if x.1=0\/x.2.1≠N then supV (0,0,0) 28 else supV x 0
def bsts (o0 o1:Option (Nat×Nat×Nat)):Nat ->Nat×Nat×Nat
 | 0=>(0,0,0)
 | 1=>bst (0,0,0) o0
 | _=>bst (bst (0,0,0) o0) o1
def nth2 (o0 o1:Option (Nat×Nat×Nat)) (k:Nat):Option (Nat×Nat×Nat):=if k=0 then o0 else o1
theorem J0x(o0 o1:Option (Nat×Nat×Nat)){k:Nat}(h:k<2):bsts o0 o1 (k+1)=bst (bsts o0 o1 k) (nth2 o0 o1 k):=by
 have:k=0\/k=1:=by omega
 rcases this with rfl | rfl<;>rfl
abbrev J43 (x:Nat×Nat×Nat):Array Value:=#[.int .u64 (x.1:Int),(x.2.1:Int),(x.2.2:Int)]
theorem Jwy{w:World}{F:Nat ->Prop}{g N n:Nat}{f fl:Int ->Option ByteArray}{ws:List (Int×ByteArray)}(h:DkAt w F g N n f fl ws)(hN:2<=N)(o0 o1:Option (Nat×Nat×Nat))(h0:Jl4 (Jav f 0) o0)(h1:Jl4 (Jav f 1) o1):
  Cs 130 #[g] w (RB w (supR N (bsts o0 o1 2))):=by
 have Hl:=zI (show ∀k:Nat,k<2 ->Jl4 (Jav f (k:Int)) (nth2 o0 o1 k) from fun k hk=>by
  have:k=0\/k=1:=by omega
  rcases this with rfl | rfl
  · exact h0
  · exact h1)
 have HD:=zI h;have R:=((qaa w.heap.size w).alloc (qab _) (.cells #[.int .u64 0,(0:Int),(0:Int)] 202));have C:=R.alloc R.size (.cells #[.int .u64 0,(0:Int),(0:Int)] 202);have A:=(Bx.new w 202 #[.int .u64 0,(0:Int),(0:Int)]).alloc (.cells #[.int .u64 0,(0:Int),(0:Int)] 202);have P:=Bx.new (w.alloc (.cells #[.int .u64 0,(0:Int),(0:Int)] 202)) 202 #[.int .u64 0,(0:Int),(0:Int)];rw[show(w.alloc (.cells #[.int .u64 0,(0:Int),(0:Int)] 202)).heap.size=w.heap.size+1 from by simp] at P;have Hm:=zI A;have Hn:=zI P;have Ho:=zI C;clear R C A P h h0 h1;go_enter Tryz.func130,Tryz.ntmps130;go_wp2_with fail
 go_loopw [10] (fun i wr=>∃k:Nat,k<=2/\i= .int .i64 (k:Int)/\Bx wr w.heap.size 202 #[.int .u64 0,(0:Int),(0:Int)]/\Bx wr (w.heap.size+1) 202 (J43 (bsts o0 o1 k))/\Below w.heap.size w wr) (fun i _=>2 - (intOf i).toNat)
 case atStart=>exact⟨0,by omega,rfl,Hm.out,Hn.out,Ho.out⟩
 case round=>
  obtain⟨k,hk,rfl,d,U,E⟩:=hrel;by_cases hJ:k<2
  · have D:=zI d
    have HY:=zI U;have T:=zI E;have Ha:=zI (Jjv (HD.out.below E) k (by omega));have O:=Hl.out k hJ;have Z:=zI (J0x o0 o1 hJ);generalize Jav f (k:Int)=S at*;generalize nth2 o0 o1 k=o at*;generalize bsts o0 o1 k=x at*;obtain⟨x',M⟩:=exE (bsts o0 o1 (k+1));rw[<- M] at Z;have L:=zI M;clear M;clear d U E;cases o with
    | none=>
      have HS:=zI (show S=strOf (zeros 256) from O);have HZ:=zI (show x'=x from Z.out);clear O Z;go_wp2_with fail
      refine Ha.out.mono ?_;rintro e w2 ⟨rfl,s⟩;have HG:=zI (J41 w2);have V:=zI (D.out.below s);have Y:=zI (HY.out.below s);have l:=zI (T.out.trans (s.mono T.out.size));rw[<- HS.out] at HG;clear s;go_wp2_with fail
      refine HG.out.mono ?_;rintro e w3 ⟨rfl,u⟩;have r:=u.alloc u.size (.cells #[.int .u64 0,(0:Int),(0:Int)] 202);have K:=zI (V.out.below r);have J:=zI (Y.out.below r);have I:=zI (l.out.trans (r.mono l.out.size));clear u r;go_wp2_with fail
      go_roundw
      case rel=>exact⟨k+1,by omega,by go_num,K.out,by rw[<- L.out,HZ.out];exact J.out,I.out⟩
      case measure=>simp[intOf];omega
    | some y=>
      obtain⟨gg,bb,nn⟩:=y;obtain⟨hS,y1,y2,y3,y4,y5⟩:=O;have HS:=zI hS;have Hp:=zI (fun W=>J8b gg bb nn W y1 y2 y3 y4 y5);clear hS y2 y3 y4 y5;go_wp2_with fail
      refine Ha.out.mono ?_;rintro e w2 ⟨rfl,s⟩;have HG:=zI (Hp.out w2);have V:=zI (D.out.below s);have Y:=zI (HY.out.below s);have l:=zI (T.out.trans (s.mono T.out.size));rw[<- HS.out] at HG;clear s;go_wp2_with fail
      refine HG.out.mono ?_;rintro e w3 ⟨rfl,u⟩;have r:=u.alloc u.size (.cells #[.int .u64 (gg:Int),(bb:Int),(nn:Int)] 202);have K:=zI (V.out.below r);have J:=zI (Y.out.below r);have I:=zI (l.out.trans (r.mono l.out.size));have p:=Y.out.below u;have Hq:=zI p;have Hr:=zI (V.out.below u);have Hb:=zI (l.out.trans (u.mono l.out.size));have t0:=p.at_ 0 rfl;have t1:=p.at_ 1 rfl;have t2:=p.at_ 2 rfl;have f0:=p.free 0;have f1:=p.free 1;have f2:=p.free 2;have Hu:w.heap.size+1<w3.heap.size:=qar Y.out.lt u.size;clear u r p;by_cases Hc:x.1<gg
      · have HZ:=zI (show x'=(gg,bb,nn) from by rw[Z.out];exact qa0 Hc)
        go_wp2_with fail
        have H:=Jaj (B:=w.heap.size) [.int .u64 (gg:Int),(bb:Int),(nn:Int)] (g:=w.heap.size+1) (by omega) w3 0;have Hd:=Jcb (g:=w.heap.size+1) [.int .u64 (gg:Int),(bb:Int),(nn:Int)] w3 0;have He:=Jaw Hq.out [.int .u64 (gg:Int),(bb:Int),(nn:Int)] rfl;have Hf:=Hr.out.chg Hd (by omega);have Hg:=zI (Hf.alloc (.cells #[.int .u64 (gg:Int),(bb:Int),(nn:Int)] 202));have Hh:=zI (He.alloc (.cells #[.int .u64 (gg:Int),(bb:Int),(nn:Int)] 202));have Hi:=zI (Hb.out.trans (H.alloc (qax Hb.out.size H.size) (.cells #[.int .u64 (gg:Int),(bb:Int),(nn:Int)] 202)));simp only[putC,qa7,Nat.reduceAdd] at Hg Hh Hi;clear H Hd He Hf;go_roundw
        case rel=>exact⟨k+1,by omega,by go_num,Hg.out,by rw[<- L.out,HZ.out];exact Hh.out,Hi.out⟩
        case measure=>simp[intOf];omega
      · have HZ:=zI (show x'=x from by rw[Z.out];exact qay Hc)
        go_wp2_with fail
        go_roundw
        case rel=>exact⟨k+1,by omega,by go_num,K.out,by rw[<- L.out,HZ.out];exact J.out,I.out⟩
        case measure=>simp[intOf];omega
  · have Hs:k=2:=by omega
    subst Hs;have Hj:=zI (show ∀x,x=bsts o0 o1 2 ->supR N (bsts o0 o1 2)=if x.1=0\/x.2.1≠N then supV (0,0,0) 28 else supV x 0 from fun x d=>by rw[d];rfl);obtain⟨x,G⟩:=exE (bsts o0 o1 2);have HR:=zI (Hj.out x G);rw[<- G] at U;have D:=zI d;have HY:=zI U;have T:=zI E;have Hk:=zI (show ∀q,Cs 36 #[g] (wr.drewN q) fun e w'=>e= .returned (N:Int)/\w'=wr.drewN q from fun q=>(Jmo (HD.out.below (below_drewN E q))).mono (fun _ _ ⟨h1,h2⟩=>⟨h1,h2.symm⟩));have t0:=U.at_ 0 rfl;have t1:=U.at_ 1 rfl;have t2:=U.at_ 2 rfl;have r0:=d.at_ 0 rfl;have r1:=d.at_ 1 rfl;have r2:=d.at_ 2 rfl;have f0:=d.free 0;have f1:=d.free 1;have f2:=d.free 2;obtain⟨a,b,c⟩:=x;simp only at t0 t1 t2 HR;clear d U E G Hj;by_cases ha:a=0
    · have HV:=zI (show supR N (bsts o0 o1 2)=supV (0,0,0) 28 from by rw[HR.out,qa0 (.inl ha)])
      have d0:((a:Int)==0)=true:=by rw[beq_iff_eq];omega
      go_wp2_with fail
      go_quiet (fail)
      go_wp2_with fail
      obtain⟨w9,t⟩:=exE (putC (wr.drewN nq) w.heap.size 0 [.int .u64 0,(0:Int),(0:Int)]);have z:=Jaw (D.out.below (below_drewN (qaa _ _) nq)) [.int .u64 0,(0:Int),(0:Int)] rfl;have m:=Jaj (B:=w.heap.size) [.int .u64 0,(0:Int),(0:Int)] (qab _) (wr.drewN nq) 0;rw[<- t] at z m;simp only[putC,qa7,Nat.reduceAdd] at t;rw[<- t];have q0:=z.at_ 0 rfl;have q1:=z.at_ 1 rfl;have q2:=z.at_ 2 rfl;rw[HV.out];exact qa6 (v:=supV (0,0,0) 28) (by simp[results,Tryz.results130,go_sem,q0,q1,q2,supV]) rfl ⟨rfl,(below_drewN T.out nq).trans m⟩
    · have d0:((a:Int)==0)=false:=by rw[qat];omega
      by_cases j:b=N
      · have HV:=zI (show supR N (bsts o0 o1 2)=supV (a,b,c) 0 from by rw[HR.out,qay];intro h;rcases h with h | h;exact ha h;exact h j)
        have d1:((b:Int) !=(N:Int))=false:=by rw[j];simp
        have Ht:=zI j;clear j;go_wp2_with fail
        go_quiet ((go_at_call 36;exact qch (Hk.out _)))
        go_wp2_with fail
        obtain⟨w9,t⟩:=exE (putC (wr.drewN nq) w.heap.size 0 [.int .u64 (a:Int),(b:Int),(c:Int)]);have z:=Jaw (D.out.below (below_drewN (qaa _ _) nq)) [.int .u64 (a:Int),(b:Int),(c:Int)] rfl;have m:=Jaj (B:=w.heap.size) [.int .u64 (a:Int),(b:Int),(c:Int)] (qab _) (wr.drewN nq) 0;rw[<- t] at z m;simp only[putC,qa7,Nat.reduceAdd] at t;rw[<- t];have q0:=z.at_ 0 rfl;have q1:=z.at_ 1 rfl;have q2:=z.at_ 2 rfl;rw[HV.out];exact qa6 (v:=supV (a,b,c) 0) (by simp[results,Tryz.results130,go_sem,q0,q1,q2,supV]) rfl ⟨rfl,(below_drewN T.out nq).trans m⟩
      · have HV:=zI (show supR N (bsts o0 o1 2)=supV (0,0,0) 28 from by rw[HR.out,qa0 (.inr j)])
        have d1:((b:Int) !=(N:Int))=true:=by rw[bne_iff_ne];omega
        have Ht:=zI j;clear j;go_wp2_with fail
        go_quiet ((go_at_call 36;exact qch (Hk.out _)))
        go_wp2_with fail
        obtain⟨w9,t⟩:=exE (putC (wr.drewN nq) w.heap.size 0 [.int .u64 0,(0:Int),(0:Int)]);have z:=Jaw (D.out.below (below_drewN (qaa _ _) nq)) [.int .u64 0,(0:Int),(0:Int)] rfl;have m:=Jaj (B:=w.heap.size) [.int .u64 0,(0:Int),(0:Int)] (qab _) (wr.drewN nq) 0;rw[<- t] at z m;simp only[putC,qa7,Nat.reduceAdd] at t;rw[<- t];have q0:=z.at_ 0 rfl;have q1:=z.at_ 1 rfl;have q2:=z.at_ 2 rfl;rw[HV.out];exact qa6 (v:=supV (0,0,0) 28) (by simp[results,Tryz.results130,go_sem,q0,q1,q2,supV]) rfl ⟨rfl,(below_drewN T.out nq).trans m⟩
end Go.Proofs.YtglmhddbhhcjdaaGreatDoor
namespace Go.Proofs.YtglmhddbhhcjdaaGreatDoor
open Go.RowKit
def Rch.err (r:Rch) (s:Smp):Int:=if Jae s.nm.toList=false\/s.tm<0 then 1 else if r.now<s.tm then 25 else if s.tm<r.from_ 0 then 24 else 0
theorem Rch.err_zero{r:Rch}{s:Smp}(hs:s.Ok)(h:r.err s=0):r.Gets s:=by
 unfold Rch.err at h;split at h
 · omega
 · next h1=>
   split at h
   · omega
   · split at h
     · omega
     · rw[not_or] at h1
       exact⟨hs,by cases e:Jae s.nm.toList<;>simp_all,by omega,by omega⟩
theorem J0y(A:Option Addr)(n c:Nat)(B:Option Addr)(m d:Nat)(r:Rch)(s:Smp)(w:World)(h:Jem w A n B m r)(hn:n<=1000000)(h1:1<=n)(hs:s.Ok):
  Cs 122 #[rchV r.now r.nm A n c B m d,.agg #[s.nm,(s.tm:Int),(s.vl:Int)]] w (RB w (r.err s:Int)):=by
 have t:=zI (fun (W:World) (g:Nat) (hg:W.cell? ⟨g,0,none⟩=some (.string s.nm))=>Jbj (some ⟨g,0,none⟩) 1 1 [s.nm] W (by decide) rfl (by simpa using hs.nm) (fun _=>⟨g,0,rfl,one_cell hg⟩));rw[show([s.nm].all fun s=>Jae s.toList)=Jae s.nm.toList from by simp] at t;have q:=zI (show Jae s.nm.toList=false\/s.tm<0 ->r.err s=1 from fun h=>by unfold Rch.err;rw[qa0 h]);have Z:=zI (show ¬ (Jae s.nm.toList=false\/s.tm<0) ->r.now<s.tm ->r.err s=25 from fun h h2=>by unfold Rch.err;rw[qay h,qa0 h2]);have Y:=zI (show ¬ (Jae s.nm.toList=false\/s.tm<0) -> ¬ r.now<s.tm ->s.tm<r.from_ 0 ->r.err s=24 from fun h h2 h3=>by unfold Rch.err;rw[qay h,qay h2,qa0 h3]);have V:=zI (show ¬ (Jae s.nm.toList=false\/s.tm<0) -> ¬ r.now<s.tm -> ¬ s.tm<r.from_ 0 ->r.err s=0 from fun h h2 h3=>by unfold Rch.err;rw[qay h,qay h2,qay h3]);generalize Jae s.nm.toList=vv at*;obtain⟨w1,y⟩:=exE ((w.alloc (.cells #[(r.now:Int),r.nm,.slice A n c,.slice B m d] 161)).alloc (.cells #[s.nm,(s.tm:Int),(s.vl:Int)] 85));have x:=(qaa w.heap.size w).alloc (qab _) (.cells #[(r.now:Int),r.nm,.slice A n c,.slice B m d] 161)
 have p:=zI (show TkS w w1 r A n c B m d s from by
  rw[y];refine⟨(Bx.new w _ _).alloc _,?_,x.alloc x.size _⟩;have:=Bx.new (w.alloc (.cells #[(r.now:Int),r.nm,.slice A n c,.slice B m d] 161)) 85 #[s.nm,(s.tm:Int),(s.vl:Int)]
  rwa [show(w.alloc (.cells #[(r.now:Int),r.nm,.slice A n c,.slice B m d] 161)).heap.size=w.heap.size+1 from by simp] at this)
 have U:=zI y;have o:=zI (fun W=>Jiu r.now r.nm A n c B m d 0 W);rw[show isB n 0=true from qaj (by omega)] at o;have T:=zI (fun W (hW:Below w.heap.size w W)=>Jg8 A n c B m d r 0 W (h.below hW) hn h1);clear y x h hs;obtain⟨a0,a1,a2,a3,b0,b1⟩:=p.out.cells;go_enter Tryz.func122,Tryz.ntmps122;go_upto_region 1 with fail
 rw[<- U.out];go_wp2_with fail
 refine(t.out _ _ (by simp[go_sem])).mono ?_;rintro e w2 ⟨rfl,S⟩;have v:=p.out.next (show Below w1.heap.size w1 w2 from by rw[<- S];exact(qaa _ _).alloc (qab _) _);have u:=zI v;clear S a0 a1 a2 a3 b0 b1;obtain⟨a0,a1,a2,a3,b0,b1⟩:=v.cells;cases vv with
 | false=>
   go_wp2_with fail
   go_ret;exact⟨by rw[q.out (by simp)];rfl,u.out.bel⟩
 | true=>
 by_cases l:s.tm<0
 · have d1:decide (s.tm<0)=true:=qaj l
   go_wp2_with fail
   go_ret;exact⟨by rw[q.out (by first | omega | (simp;omega))];rfl,u.out.bel⟩
 have d1:decide (s.tm<0)=false:=qae l;by_cases z:r.now<s.tm
 · have d2:decide (r.now<s.tm)=true:=qaj z
   go_wp2_with fail
   go_ret;exact⟨by rw[Z.out (by first | omega | (simp;omega)) (by first | omega | (simp;omega))];rfl,u.out.bel⟩
 have d2:decide (r.now<s.tm)=false:=qae z;go_wp2_with fail
 have k:=zI (v.next (qaa _ _).drew)
 go_region_held3 (fun w'=>(w'.cell? ⟨w.heap.size,0,none⟩=some (.int .i64 r.now)/\w'.cell? ⟨w.heap.size,1,none⟩=some (.string r.nm)/\w'.cell? ⟨w.heap.size,2,none⟩=some (.slice A n c)/\w'.cell? ⟨w.heap.size,3,none⟩=some (.slice B m d)/\w'.cell? ⟨w.heap.size+1,0,none⟩=some (.string s.nm)/\w'.cell? ⟨w.heap.size+1,1,none⟩=some (.int .i64 s.tm))/\TkS w w' r A n c B m d s)
  (first
    | exact⟨k.out.cells,k.out⟩
    | (go_split_ands;exact⟨(TkS.next (by assumption) j).cells,TkS.next (by assumption) j⟩)
    | (go_split_ands;exact⟨(TkS.next (by assumption) i).cells,TkS.next (by assumption) i⟩))
  (first
    | (go_at_call 183;refine(o.out _).mono ?_;rintro e wq ⟨rfl,j⟩)
    | (go_at_call 108;go_split_ands;refine(T.out _ (TkS.bel (by assumption))).mono ?_;rintro e wp ⟨rfl,i⟩))
 have f:TkS w wp r A n c B m d s:=by go_split_ands;assumption
 have b:=zI f.bel;clear f;by_cases a:s.tm<r.from_ 0
 · have d3:decide (s.tm<r.from_ 0)=true:=qaj a
   go_wp2_with fail
   go_ret;exact⟨by rw[Y.out (by first | omega | (simp;omega)) (by first | omega | (simp;omega)) (by first | omega | (simp;omega))];rfl,b.out⟩
 have d3:decide (s.tm<r.from_ 0)=false:=qae a;go_wp2_with fail
 go_ret;exact⟨by rw[V.out (by first | omega | (simp;omega)) (by first | omega | (simp;omega)) (by first | omega | (simp;omega))];rfl,b.out⟩
def Rch.errs (r:Rch):List Smp ->Int
 | []=>0
 | s::l=>if r.err s=0 then r.errs l else r.err s
theorem Rch.errs_all{r:Rch}:∀ {l:List Smp},(∀s∈l,r.err s=0) ->r.errs l=0
 | [],_=>rfl
 | s::l,h=>by
   simp only[Rch.errs];rw[qa0 (h s (List.mem_cons_self ..))];exact Rch.errs_all fun x hx=>h x (qc9 _ hx)
theorem Rch.errs_at{r:Rch}:∀ {l:List Smp} {k:Nat} (hk:k<l.length),(∀s∈l.take k,r.err s=0) ->r.err l[k]≠0 ->r.errs l=r.err l[k]
 | s::l,0,hk,_,h=>by
   simp only[Rch.errs];exact qay h
 | s::l,k+1,hk,ha,h=>by
   simp only[Rch.errs];rw[List.take_succ_cons] at ha;rw[qa0 (ha s (List.mem_cons_self ..))];exact Rch.errs_at (l:=l) (k:=k) (by simpa using hk) (fun x hx=>ha x (qc9 _ hx)) h
def Rch.putErr (r:Rch) (l:List Smp):Int:=if l.length=0 then 1 else if 8<l.length then 2 else r.errs l
theorem Rch.errs_gets{r:Rch}:∀ {l:List Smp},(∀s∈l,s.Ok) ->r.errs l=0 ->∀s∈l,r.Gets s
 | [],_,_=>fun s hs=>by cases hs
 | a ::l,hs,h=>by
   simp only[Rch.errs] at h;split at h
   · next ha=>
     intro s z;rcases qbb.1 z with e | e
     · rw[e];exact Rch.err_zero (hs a (List.mem_cons_self ..)) ha
     · exact Rch.errs_gets (fun x z=>hs x (qc9 _ z)) h s e
   · next ha=>exact absurd h ha
theorem Rch.putErr_zero{r:Rch}{l:List Smp}(hs:∀s∈l,s.Ok)(h:r.putErr l=0):1<=l.length/\l.length<=8/\∀s∈l,r.Gets s:=by
 unfold Rch.putErr at h;split at h
 · omega
 · split at h
   · omega
   · exact⟨by omega,by omega,Rch.errs_gets hs h⟩
theorem J44{F:Nat ->Prop}{g:Nat}{t:Tv}{A:Option Addr}{n c:Nat}{l:List Smp}(w:World)(h:Jag w F g t)(h1:1<=t.tabs.length)(hl:Smps w A n l)(hE:t.r.putErr l≠0):
  Cs 58 #[g,.slice A n c] w (RB w (t.r.putErr l:Int)):=by
 have f:=zI (Jgo w h h1);have HT:=zI h;have HL:=zI hl;have z:=zI hl.len;have h3:=h.few;by_cases O:n=0
 · subst O
   have Y:=zI (show t.r.putErr l=1 from by unfold Rch.putErr;rw[qa0 z.out]);clear h hl hE;go_enter Tryz.func58,Tryz.ntmps58;go_wp2_with fail
   refine f.out.mono ?_;rintro e w1 ⟨rfl,V⟩;subst V;go_wp2_with fail
   go_ret;exact⟨by rw[Y.out];rfl,qaa _ _⟩
 have hJ:1<=n:=by omega
 have d1:((n:Int)==0)=false:=by rw[qat];omega
 by_cases U:8<n
 · have d2:decide ((8:Int)<(n:Int))=true:=qaj (by omega)
   have d2':decide (8<n)=true:=qaj U;have Y:=zI (show t.r.putErr l=2 from by unfold Rch.putErr;rw[qay (by rw[z.out];omega),qa0 (by rw[z.out];exact U)]);clear h hl hE;go_enter Tryz.func58,Tryz.ntmps58;go_wp2_with fail
   refine f.out.mono ?_;rintro e w1 ⟨rfl,V⟩;subst V;go_wp2_with fail
   go_ret;exact⟨by rw[Y.out];rfl,qaa _ _⟩
 have Ha:n<=8:=by omega
 have d2:decide ((8:Int)<(n:Int))=false:=qae (by omega);have Y:=zI (show t.r.putErr l=t.r.errs l from by unfold Rch.putErr;rw[qay (by rw[z.out];omega),qay (by rw[z.out];omega)]);have HE:=zI (show t.r.errs l≠0 from by rw[<- Y.out];exact hE);have N:=zI (show ∀W (x:Smp),x∈l ->∀A2 c2 B2 m2 d2,Jem W A2 t.tabs.length B2 m2 t.r ->Cs 122 #[rchV t.r.now t.r.nm A2 t.tabs.length c2 B2 m2 d2,.agg #[x.nm,(x.tm:Int),(x.vl:Int)]] W (RB W (t.r.err x:Int)) from fun W x m A2 c2 B2 m2 d2 hR=>J0y A2 _ c2 B2 m2 d2 t.r x W hR (by omega) h1 (hl.ok x m));clear h hl hE;go_enter Tryz.func58,Tryz.ntmps58;go_wp2_with fail
 refine f.out.mono ?_;rintro e w1 ⟨rfl,V⟩;subst V;go_wp2_with fail
 go_loopw [28] (fun j wr=>∃k:Nat,k<=n/\j= .int .i64 (k:Int)/\(∀s∈l.take k,t.r.err s=0)/\Below w.heap.size w wr) (fun j _=>n - (intOf j).toNat)
 case atStart=>exact⟨0,qaq _,rfl,(fun s hs=>by cases hs),qaa _ _⟩
 case round=>
  obtain⟨k,hk,rfl,i,P⟩:=hrel;have y:=zI i;clear i;by_cases M:k<n
  · have K:k<l.length:=by rw[z.out];exact M
    obtain⟨b,off,rfl,Hb,R⟩:=(HL.out.below P).get K;obtain⟨A2,c2,B2,m2,d2,L2,cl2,ga2,gm2,L,T,_⟩:=(HT.out.below P).tabs;obtain⟨x,m⟩:=exE (l[k]);have J:=zI (fun W (hW:Below wr.heap.size wr W)=>N.out W x (by rw[m];exact qan K) A2 c2 B2 m2 d2 (T.below hW))
    have I:=zI (show t.r.err x=0 ->∀s∈l.take (k+1),t.r.err s=0 from fun h0 s hs=>by
     rw[qam K] at hs;rcases qbe.1 hs with e | e
     · exact y.out s e
     · rw[qa1.1 e,<- m];exact h0)
    have H:=zI (show t.r.err x≠0 ->t.r.putErr l=t.r.err x from fun h0=>by rw[Y.out,m,Rch.errs_at K y.out (by rw[<- m];exact h0)]);rw[<- m] at R;generalize t.r.err x=er at*;have d:=(qaa wr.heap.size wr).alloc (qab _) (.cells #[x.nm,(x.tm:Int),(x.vl:Int)] 85);obtain⟨w1,a⟩:=exE (wr.alloc (.cells #[x.nm,(x.tm:Int),(x.vl:Int)] 85));have Z:=Bx.new wr 85 #[x.nm,(x.tm:Int),(x.vl:Int)];rw[<- a] at d Z;have G:=zI (show PuS wr w1 x from⟨Z,d⟩);have v:=zI (G.out.next (qaa _ _).drew);have E:=zI a;have q:=zI L;have p:=zI (L.below v.out.bel);have HB:=zI P;obtain⟨r0,r1,r2⟩:=R;clear m d Z a L T P;go_upto_region 8 with fail
    rw[<- E.out]
    go_region_held3 (fun w'=>w'.cell? ⟨g,0,none⟩=some (.int .i64 t.r.now)/\w'.cell? ⟨g,1,none⟩=some (.string t.r.nm)/\w'.cell? ⟨g,2,none⟩=some (.slice A2 t.tabs.length c2)/\w'.cell? ⟨g,3,none⟩=some (.slice B2 m2 d2)/\w'.cell? ⟨wr.heap.size,0,none⟩=some (.string x.nm)/\w'.cell? ⟨wr.heap.size,1,none⟩=some (.int .i64 x.tm)/\w'.cell? ⟨wr.heap.size,2,none⟩=some (.int .i64 x.vl)/\PuS wr w' x)
     (first
       | exact⟨p.out.at_ 0 rfl,p.out.at_ 1 rfl,p.out.at_ 2 rfl,p.out.at_ 3 rfl,v.out.box.at_ 0 rfl,v.out.box.at_ 1 rfl,v.out.box.at_ 2 rfl,v.out⟩
       | (go_split_ands
          have u:=PuS.next (by assumption) D;exact⟨(q.out.below u.bel).at_ 0 rfl,(q.out.below u.bel).at_ 1 rfl,(q.out.below u.bel).at_ 2 rfl,(q.out.below u.bel).at_ 3 rfl,u.box.at_ 0 rfl,u.box.at_ 1 rfl,u.box.at_ 2 rfl,u⟩))
     ((go_at_call 122;go_split_ands;refine(J.out _ (PuS.bel (by assumption))).mono ?_;rintro e w2 ⟨rfl,D⟩))
    have u:PuS wr w2 x:=by go_split_ands;assumption
    have S:=zI (HB.out.trans (u.bel.mono HB.out.size));clear u r0 r1 r2;by_cases o:er=0
    · have C:=zI (I.out o)
      subst o;go_wp2_with fail
      go_roundw
      case rel=>exact⟨k+1,by omega,by go_num,C.out,S.out⟩
      case measure=>simp[intOf];omega
    · have B:=zI (H.out o)
      have d4:(er==0)=false:=by rw[qat];exact o
      go_wp2_with fail
      go_ret;exact⟨by rw[B.out];rfl,S.out⟩
  · exact absurd (Rch.errs_all fun s hs=>y.out s (by rw[qap (by rw[z.out];omega)];exact hs)) HE.out
def smB (s:Smp):List UInt8:=nmB s.nm.toList++(le 8 (u64 s.tm)++le 8 (u64 s.vl))
theorem J0z{s:Smp}(h:s.nm.toList.length<=15):(smB s).length=32:=by simp[smB,Jf3 h]
structure Smp.Fine (s:Smp):Prop where
 ok:s.Ok
 nm:Jae s.nm.toList=true
 len:s.nm.toList.length<=15
 tm:0<=s.tm/\s.tm<=1099511627776
def smsB (l:List Smp):List UInt8:=l.flatMap smB
theorem Jj1:∀ {l:List Smp},(∀s∈l,s.nm.toList.length<=15) ->(smsB l).length=32*l.length
 | [],_=>rfl
 | a::r,h=>by
   have y:=J0z (h a (by simp));have z:=Jj1 (l:=r) (fun x hx=>h x (by simp[hx]));unfold smsB at z ⊢;rw[qau,qad,y,z,qa3];omega
theorem J00(l:List Smp)(s:Smp):smsB (l++[s])=smsB l++smB s:=by simp[smsB]
structure Ov where
 kind:Nat
 n:Int
 l:List Smp
structure Ov.Ok (o:Ov):Prop where
 fine:∀s∈o.l,s.Fine
 kind:o.kind=1/\o.n=0/\1<=o.l.length/\o.l.length<=8\/o.kind=2/\0<=o.n/\o.n<=1099511627776/\o.l=[]
def opB (o:Ov):List UInt8:=le 1 o.kind++(le 1 o.l.length++le 8 (u64 o.n))++smsB o.l
theorem J8h{o:Ov}(h:o.Ok):(opB o).length=10+32*o.l.length:=by
 unfold opB;rw[qad,Jj1 (fun s hs=>(h.fine s hs).len)]
 simp
theorem Js1{o:Ov}(h:o.Ok):(opB o).length<=266:=by
 rw[J8h h];rcases h.kind with h | h
 · omega
 · rw[h.2.2.2];simp
theorem J01(s:Smp)(w:World)(h:s.Fine):Cs 230 #[.agg #[s.nm,(s.tm:Int),(s.vl:Int)]] w (RB w (.tuple #[(strOf (smB s)),(0:Int)])):=by
 have t:=zI (fun (W:World) (g:Nat) (hg:W.cell? ⟨g,0,none⟩=some (.string s.nm))=>Jbj (some ⟨g,0,none⟩) 1 1 [s.nm] W (by decide) rfl (by simpa using h.ok.nm) (fun _=>⟨g,0,rfl,one_cell hg⟩));rw[show([s.nm].all fun s=>Jae s.toList)=true from by simp[h.nm]] at t;have n:=zI (Bx.new w 85 #[s.nm,(s.tm:Int),(s.vl:Int)]);have r:=zI ((qaa w.heap.size w).alloc (qab _) (.cells #[s.nm,(s.tm:Int),(s.vl:Int)] 85));have m:=zI (fun W=>Jqw s.tm W h.tm);have l:=zI h.len;have k:=zI (show s.nm.size<=15 from by rw[<- Jac];exact h.len);clear h;go_enter Tryz.func230,Tryz.ntmps230;go_wp2_with fail
 refine(t.out _ _ (by simp[go_sem])).mono ?_;rintro e w2 ⟨rfl,u⟩
 have x:Below (w.alloc (.cells #[s.nm,(s.tm:Int),(s.vl:Int)] 85)).heap.size (w.alloc (.cells #[s.nm,(s.tm:Int),(s.vl:Int)] 85)) w2:=by
  rw[<- u]
  repeat (first | exact qaa _ _ | refine Below.drew ?_ | refine qc8 ?_ (by simp;try omega) _)
 have z:=zI (n.out.below x);have q:=zI (r.out.trans (x.mono r.out.size));have s0:=z.out.at_ 0 (v:= s.nm) rfl;have s1:=z.out.at_ 1 (v:= (s.tm:Int)) rfl;have j:=z.out.lt;clear u x;go_wp2_with fail
 refine(m.out _).mono ?_;rintro e w3 ⟨rfl,u⟩;subst u;go_wp2_with fail
 refine(LayW.names0 w2 [s.nm] (by simpa using k.out) 1 1 #[s.nm] rfl rfl (by omega)).mono ?_;rintro e w4 ⟨rfl,y⟩;have i:=zI (show LayW w2 w4 w2.heap.size (nmB s.nm.toList) from by simpa using y);have t1:=(y.bx z.out).at_ 1 (v:= (s.tm:Int)) rfl;have t2:=(y.bx z.out).at_ 2 (v:= (s.vl:Int)) rfl;clear y s0 s1 j;have f:=zI (Jf3 (s:=s.nm.toList) l.out);go_wp2_with fail
 refine(i.out.ints [s.tm,s.vl] 2 2 #[(s.tm:Int),(s.vl:Int)] rfl rfl (by simp[f.out])).mono ?_;rintro e w5 ⟨rfl,p⟩;have o:=zI (show LayW w2 w5 w2.heap.size (smB s) from by simpa[smB] using p);clear p t1 t2;have d:=zI o.out.done;go_wp2_with fail
 refine d.out.mono ?_;rintro e w6 ⟨rfl,u⟩;subst u;have c:=zI (q.out.trans (o.out.below.mono q.out.size));go_wp2_with fail
 go_ret2;exact⟨rfl,c.out⟩
theorem Jm6(A:Option Addr)(n c:Nat)(l:List Smp)(w:World)(h:Smps w A n l)(hf:∀s∈l,s.Fine)(hn:n<=10000):
  Cs 174 #[.slice A n c] w (RB w (.tuple #[(strOf (smsB l)),(0:Int)])):=by
 have g:=zI h.len;have Z:=zI (fun r W (hr:r∈l)=>J01 r W (hf r hr));have Y:=zI h;have f:=zI hf;clear h hf;go_enter Tryz.func174,Tryz.ntmps174;go_wp2_with fail
 go_loopw [4,11] (fun s i wr=>∃k:Nat,k<=n/\i= .int .i64 (k:Int)/\s= .string (strOf (smsB (l.take k)))/\Below w.heap.size w wr) (fun _ i _=>n - (intOf i).toNat)
 case atStart=>exact⟨0,qaq _,rfl,rfl,qaa _ _⟩
 case round=>
  obtain⟨k,P,rfl,rfl,y⟩:=hrel;by_cases q:k<n
  · have K:k<l.length:=by rw[g.out];exact q
    have d:=zI (show strOf (smsB (l.take k))++strOf (smB l[k])=strOf (smsB (l.take (k+1))) from by
     rw[qam K,J00,Jc8])
    have V:(strOf (smsB (l.take k))).size<=1000000:=by
     rw[Jaa,Jj1 (fun r hr=>(f.out r (qbi hr)).len),qao];omega
    have U:(strOf (smB l[k])).size<=1000:=by rw[Jaa,J0z (f.out _ (qan K)).len];omega
    have p:=zI (fun W=>Z.out l[k] W (qan K));obtain⟨b,off,rfl,T,R⟩:=(Y.out.below y).get K;obtain⟨s2,z⟩:=exE (strOf (smsB (l.take (k+1))));rw[<- z] at d;have o:=zI z;clear z;generalize strOf (smsB (l.take k))=s1 at*;generalize l[k]'K=x at*;obtain⟨r0,r1,r2⟩:=R;have v:=(qaa wr.heap.size wr).alloc (qab _) (.cells #[x.nm,(x.tm:Int),(x.vl:Int)] 85);have u:=zI (y.trans (v.mono y.size));clear v y;go_wp2_with fail
    refine(p.out _).mono ?_;rintro e w2 ⟨rfl,t⟩;have m:=zI (u.out.trans (t.mono u.out.size));clear t r0 r1 r2;go_wp2_with fail
    go_roundw
    case rel=>exact⟨k+1,by omega,by go_num,by rw[d.out,o.out],m.out⟩
    case measure=>simp[intOf];omega
  · have j:n=k:=by omega
    have a:=zI (show l.take k=l from qap (by rw[g.out];omega));rw[a.out];have S:=zI y;clear y j a;go_wp2_with fail
    go_ret2;exact⟨rfl,S.out⟩
abbrev opV (o:Ov) (A:Option Addr) (n c:Nat):Value:= .agg #[(o.kind:Int),(o.n:Int),.slice A n c]
theorem Jwz(o:Ov)(A:Option Addr)(n c:Nat)(w:World)(h:o.Ok)(hl:Smps w A n o.l):
  Cs 144 #[opV o A n c] w fun e w'=>e= .returned true/\Below w.heap.size w w':=by
 have u:=(qaa w.heap.size w).alloc (qab _) (.cells #[(o.kind:Int),(o.n:Int),.slice A n c] 115);have s:=zI (Bx.new w 115 #[(o.kind:Int),(o.n:Int),.slice A n c]);have k:n<=8:=by have:=hl.len;rcases h.kind with x | x;omega;rw[x.2.2.2] at this;simp at this;omega
 have m:=zI (Jm6 A n c o.l _ (hl.below u) h.fine (by omega));have r:=zI u;have y:=hl.len;have j:=h.kind;obtain⟨kd,nn,l⟩:=o;simp only at*;clear u hl h;rcases j with⟨rfl,rfl,q,i⟩ | ⟨rfl,q,g,rfl⟩
 · have f:1<=n:=by omega
   clear y q i;have d1:decide ((1:Int)<=(n:Int))=true:=qaj (by omega);have d2:decide ((n:Int)<=8)=true:=qaj (by omega);go_enter Tryz.func144,Tryz.ntmps144;go_wp2_with fail
   refine m.out.mono ?_;rintro e w2 ⟨rfl,z⟩;have x0:=(s.out.below z).at_ 0 (v:= (1:Int)) rfl;have x1:=(s.out.below z).at_ 1 (v:= (0:Int)) rfl;have x2:=(s.out.below z).at_ 2 (v:= .slice A n c) rfl;have t:=zI (r.out.trans (z.mono r.out.size));clear z;go_wp2_with fail
   go_ret;exact⟨rfl,t.out⟩
 · have p:n=0:=by simpa using y.symm
   subst p;have d1:decide ((0:Int)<=nn)=true:=qaj q;have d2:decide (nn<=(1099511627776:Int))=true:=qaj g;go_enter Tryz.func144,Tryz.ntmps144;go_wp2_with fail
   refine m.out.mono ?_;rintro e w2 ⟨rfl,z⟩;have x0:=(s.out.below z).at_ 0 (v:= (2:Int)) rfl;have x1:=(s.out.below z).at_ 1 (v:= (nn:Int)) rfl;have x2:=(s.out.below z).at_ 2 (v:= .slice A 0 c) rfl;have t:=zI (r.out.trans (z.mono r.out.size));clear z;go_wp2_with fail
   go_ret;exact⟨rfl,t.out⟩
theorem Jw0(o:Ov)(A:Option Addr)(n c:Nat)(w:World)(h:o.Ok)(hl:Smps w A n o.l):
  Cs 102 #[opV o A n c] w (RB w (.tuple #[(strOf (opB o)),(0:Int)])):=by
 have q:=(qaa w.heap.size w).alloc (qab _) (.cells #[(o.kind:Int),(o.n:Int),.slice A n c] 115);have U:=Bx.new w 115 #[(o.kind:Int),(o.n:Int),.slice A n c];have T:n<=8:=by have:=hl.len;rcases h.kind with x | x;omega;rw[x.2.2.2] at this;simp at this;omega
 have S:=zI (show o.kind<256/\n<256 from by rcases h.kind with x | x<;>omega)
 have g:=zI (fun W (hW:Below w.heap.size w W)=>Jwz o A n c W h (hl.below hW));have R:=zI (fun W (hW:Below w.heap.size w W)=>Jm6 A n c o.l W (hl.below hW) h.fine (by omega));have f:=zI hl.len;have p:=zI (show(strOf (smsB o.l)).size<=300 from by rw[Jaa,Jj1 (fun s hs=>(h.fine s hs).len),hl.len];omega);have P:=zI U;have d:=zI q;clear q U h hl;go_enter Tryz.func102,Tryz.ntmps102;go_wp2_with fail
 refine(g.out _ d.out).mono ?_;rintro e w2 ⟨rfl,y⟩;have m:=zI (P.out.below y);have u:=zI (d.out.trans (y.mono d.out.size));have x2:=m.out.at_ 2 (v:= .slice A n c) rfl;clear y;go_wp2_with fail
 refine(R.out _ u.out).mono ?_;rintro e w3 ⟨rfl,t⟩;have z:=zI (m.out.below t);have k:=zI (u.out.trans (t.mono u.out.size));clear t x2;have s0:=z.out.at_ 0 (v:= (o.kind:Int)) rfl;have s2:=z.out.at_ 2 (v:= .slice A n c) rfl;have b:=z.out.lt;obtain⟨Z,a⟩:=exE (strOf (smsB o.l));have O:=zI a;rw[<- a] at p ⊢;clear a;have N:=p.out;go_wp2_with fail
 refine(LayW.small0 w3 1 Jmz [o.kind,n] (by have:=S.out;simp;omega) 2 2 #[(o.kind:Int),(n:Int)] rfl rfl (by omega)).mono ?_;rintro e w4 ⟨rfl,r⟩;have Y:=zI (show LayW w3 w4 w3.heap.size (le 1 o.kind++le 1 n) from by simpa using r);have s1:=(r.bx z.out).at_ 1 (v:= (o.n:Int)) rfl;clear r s0 s2 b;go_wp2_with fail
 refine(Y.out.ints [o.n] 1 1 #[(o.n:Int)] rfl rfl (by simp)).mono ?_;rintro e w5 ⟨rfl,j⟩;have i:=zI (show LayW w3 w5 w3.heap.size (le 1 o.kind++(le 1 n++le 8 (u64 o.n))) from by simpa using j);clear j s1;have V:=zI i.out.done;go_wp2_with fail
 refine V.out.mono ?_;rintro e w6 ⟨rfl,M⟩;subst M;have L:=zI (k.out.trans (i.out.below.mono k.out.size));have K:=zI (show strOf (le 1 o.kind++(le 1 n++le 8 (u64 o.n)))++Z=strOf (opB o) from by rw[O.out,Jc8];unfold opB;rw[f.out]);have J:(strOf (le 1 o.kind++(le 1 n++le 8 (u64 o.n)))).size<=100:=by rw[Jaa];simp
 generalize strOf (le 1 o.kind++(le 1 n++le 8 (u64 o.n)))=X at*;go_wp2_with fail
 rw[K.out];go_ret2;exact⟨rfl,L.out⟩
open Go.Maps Go.Sort
structure Jeb (w:World) (g cap:Nat) (R:List Rc):Prop where
 at_:∃cur,w.heap[g]? =some (.cells cur 142 (0,0))/\R.length<=cap/\cap<=maxLen/\cur.size=cap*7/\cur.toList.take (R.length*7)=R.flatMap Rc.cells
theorem Jeb.lt{w:World}{g cap:Nat}{R:List Rc}(h:Jeb w g cap R):g<w.heap.size:=by obtain⟨_,z,_⟩:=h.at_;exact qcb z
theorem Jeb.le{w:World}{g cap:Nat}{R:List Rc}(h:Jeb w g cap R):R.length<=cap:=by obtain⟨_,_,z,_⟩:=h.at_;exact z
theorem Jeb.own{w:World}{g cap B:Nat}{R:List Rc}(h:Jeb w g cap R)(hB:B<=g):w.ownsRow B 142 7 (.slice (some ⟨g,0,none⟩) R.length cap) R.length (R.flatMap Rc.cells):=by
 obtain⟨cur,z,y,x,v,u⟩:=h.at_;exact⟨Jca Jeo R,.inr ⟨g,cap,cur,rfl,hB,z,y,x,v,u⟩⟩
theorem Jeb.kept{w w':World}{g cap:Nat}{R:List Rc}{row:Option Nat}(h:Jeb w g cap R)(hg:w.grownBy w' row)(hne:some g≠row):Jeb w' g cap R:=by
 obtain⟨cur,z,y⟩:=h.at_;exact⟨cur,(hg.block g h.lt hne).trans z,y⟩
theorem Jeb.get{w:World}{g cap:Nat}{R:List Rc}(h:Jeb w g cap R){j:Nat}(hj:j<R.length):Jbv w g (j*7) R[j]:=by
 have z:=h.own (qaq g)
 have key:∀q,q<7 ->w.cell? ⟨g,j*7+q,none⟩=R[j].cells[q]? :=fun q hq=>by
  rw[z.cellAt (j*7+q) (by omega),Jdh Jeo R j hj q hq]
 exact⟨key 0 (by omega),key 1 (by omega),key 2 (by omega),key 3 (by omega),key 4 (by omega),key 5 (by omega),key 6 (by omega)⟩
theorem Jeb.free{w:World}{g cap:Nat}{R:List Rc}(h:Jeb w g cap R)(o:Nat):w.frozen? ⟨g,o,none⟩=false:=by
 obtain⟨cur,z,_⟩:=h.at_;exact frozen_of_row w g o _ _ z
theorem Jfh(g:Nat)(T:TypeId):∀ (vs:List Value) (o:Nat) (w:World) (cs:Array Value),w.heap[g]? =some (.cells cs T (0,0)) ->(w.setCells g o vs).heap[g]? =some (.cells (setMany cs o vs) T (0,0))
 | [],_,_,_,h=>h
 | v::r,o,w,cs,h=>Jfh g T r (o+1) _ _ (qdb w g o cs T v h)
theorem Jei(g:Nat):∀ (vs:List Value) (o:Nat) (w:World),w.grownBy (w.setCells g o vs) (some g)
 | [],_,w=>qcc w _
 | v::r,o,w=>by
   have z:w.grownBy (w.setCell ⟨g,o,none⟩ v) (some g):=⟨rfl,rfl,rfl,by simp,fun k hk hne=>qdi w _ v k (fun e=>hne (by rw[e]))⟩;exact z.andThen (Jei g r (o+1) _) (fun j hj=>by cases hj;exact Or.inr rfl)
theorem Jq2(cs:Array Value)(o:Nat)(vs:List Value)(n:Nat)(h:n<=o):(setMany cs o vs).toList.take n=cs.toList.take n:=by
 apply qdc;intro t;by_cases y:t<n
 · rw[qcx y,qcx y,qcy,qcy]
   by_cases z:t<cs.size
   · have:=get_setMany vs o cs t z
     rw[qay (by omega)] at this;rw[qc4 (by simpa using z),qc4 z,<- getElem!_pos _ t (by simpa using z),<- getElem!_pos _ t z,this]
   · rw[Array.getElem?_eq_none (by simp;omega),Array.getElem?_eq_none (by omega)]
 · rw[List.getElem?_take_eq_none (by omega),List.getElem?_take_eq_none (by omega)]
theorem Jeb.set{w:World}{g cap:Nat}{R:List Rc}(h:Jeb w g cap R)(i:Nat)(x:Rc):Jeb (w.setCells g (i*7) x.cells) g cap (R.set i x):=by
 obtain⟨cur,p,u,o,s,n⟩:=h.at_;refine⟨_,Jfh g _ _ _ _ _ p,by simpa using u,o,by simpa using s,?_⟩;rw[List.length_set];apply qdc;intro t;by_cases v:t<R.length*7
 · have z:t<cur.size:=by rw[s];exact qar v (Nat.mul_le_mul_right _ u)
   have r:t / 7<R.length:=by omega
   have y:t % 7<7:=Nat.mod_lt _ (by omega);have e1:=Jdh Jeo (R.set i x) (t / 7) (by simpa using r) (t % 7) y;rw[Nat.div_add_mod' t 7] at e1;have e2:=Jdh Jeo R (t / 7) r (t % 7) y;rw[Nat.div_add_mod' t 7,<- n,qcx v,qcy] at e2;rw[qcx v,qcy,e1];have e3:=get_setMany x.cells (i*7) cur t z;rw[qc4 (by simpa using z),<- getElem!_pos _ t (by simpa using z),e3,Jeo];by_cases q:i*7<=t/\t<i*7+7
   · rw[qa0 q]
     have ei:i=t / 7:=(by omega);have em:t - i*7=t % 7:=(by omega);rw[em,List.getElem_set,qa0 ei,getElem!_pos _ _ (by rw[Jeo];exact y),qah (by rw[Jeo];exact y)]
   · rw[qay q,List.getElem_set,qay (by omega),<- e2,qc4 z,getElem!_pos _ t z]
 · rw[List.getElem?_take_eq_none (by omega),qbj (by rw[Jca Jeo];simp;omega)]
theorem Jeb.cut{w:World}{g cap:Nat}{R:List Rc}(h:Jeb w g cap R)(i:Nat)(hi:i<=R.length)(vs:List Value):Jeb (w.setCells g (i*7) vs) g cap (R.take i):=by
 obtain⟨cur,x,s,v,u,t⟩:=h.at_;have y:(R.take i).length=i:=by rw[qao];omega
 refine⟨_,Jfh g _ _ _ _ _ x,by omega,v,by simpa using u,?_⟩;rw[y,Jq2 _ _ _ _ (qab _)];have e:cur.toList.take (i*7)=(cur.toList.take (R.length*7)).take (i*7):=by rw[List.take_take,Nat.min_eq_left (Nat.mul_le_mul_right _ hi)]
 rw[e,t]
 conv=>lhs;rw[<- qa8 i R]
 rw[qav];have z:=Jca Jeo (R.take i);rw[y] at z;rw[<- z,List.take_left'];rfl
theorem J45(w:World):(zeroValue 142).run Tryz.prog w= .ok (.agg #[ByteArray.empty,(0:Int),(0:Int),(0:Int),.int .u64 0,(0:Int),(0:Int)]) w:=by kernel_rfl
theorem Js2{P:Program}(w:World)(t e ty:TypeId)(z:Value)(ht:P.underlying t=some (.slice e))(hv:∀w,(zeroValue e).run P w= .ok z w)(b o n c:Nat)(hn:0<n)(vs:List Value)(hvs:(Builtin.zeroCells z.cells n).toList=vs)(hst:(storeCells ⟨b,o,none⟩ vs 0).run P w= .ok () (w.setCells b o vs)):(Builtin.clear_ #[t] ty #[.slice (some ⟨b,o,none⟩) n c]).run P w= .ok (.tuple #[]) (w.setCells b o vs):=by
 obtain⟨m,rfl⟩:∃m,n=m+1:=⟨n - 1,by omega⟩;simp[Builtin.clear_,run_underlying ht,hv,hvs,hst]
theorem J02{w:World}{g cap:Nat}{R:List Rc}(h:Jeb w g cap R)(i:Nat)(hi:i<R.length)(c:Nat)(ty:TypeId):
  ∃vs,(Builtin.clear_ #[43] ty #[.slice (some ⟨g,i*7,none⟩) (R.length - i) c]).run Tryz.prog w= .ok (.tuple #[]) (w.setCells g (i*7) vs):=by
 obtain⟨z,p⟩:∃z:Value,z= .agg #[.string ByteArray.empty,.int .i64 0,.int .i64 0,.int .i64 0,.int .u64 0,.int .i64 0,.int .i64 0]:=⟨_,rfl⟩;have x:z.cells=#[.string ByteArray.empty,.int .i64 0,.int .i64 0,.int .i64 0,.int .u64 0,.int .i64 0,.int .i64 0]:=by rw[p];rfl
 obtain⟨vs,y⟩:=exE ((Builtin.zeroCells z.cells (R.length - i)).toList);have o:vs.length=(R.length - i)*7:=by rw[y];simp[Builtin.zeroCells,x]
 have u:∀v∈vs,v.oneCell'=true:=by
  intro v r;rw[y,x] at r;simp[Builtin.zeroCells] at r;obtain⟨t,_,rfl⟩:=r;have n:t % 7<7:=Nat.mod_lt _ (by omega);generalize t % 7=q at n ⊢
  match q,n with
  | 0,_=>rfl
  | 1,_=>rfl
  | 2,_=>rfl
  | 3,_=>rfl
  | 4,_=>rfl
  | 5,_=>rfl
  | 6,_=>rfl
 have m:=h.own (qaq g)
 have s:=run_storeCells_cells (P:=Tryz.prog) g (i*7) vs 0 w (fun j hj=>by
  rw[qdg,m.cellAt (i*7+j) (by omega),qah (by rw[Jca Jeo];omega)];rfl) (fun j hj=>h.free _) u
 refine⟨vs,?_⟩;simp only[qdg] at s;exact Js2 w _ _ ty z Tryz.underlying43 (fun W=>by rw[p];exact J45 W) g (i*7) _ c (by omega) vs y.symm s
end Go.Proofs.YtglmhddbhhcjdaaGreatDoor
namespace Go.Proofs.YtglmhddbhhcjdaaGreatDoor
open Go.RowKit Go.Maps
def idxP (p:Rc ->Bool) (l:List Rc):Int:=match l.findIdx? p with | some i=>i | none=> -1
theorem J8i{p:Rc ->Bool}{l:List Rc}(h:∀r∈l,p r=false):idxP p l= -1:=by
 unfold idxP;have:l.findIdx? p=none:=by rw[List.findIdx?_eq_none_iff];simpa using h
 rw[this]
theorem J8j{p:Rc ->Bool}{l:List Rc}{j:Nat}(hj:j<l.length)(h:p l[j]=true)(ha:∀i (hi:i<l.length),i<j ->p l[i]=false):idxP p l=j:=by
 unfold idxP
 have:l.findIdx? p=some j:=by
  rw[List.findIdx?_eq_some_iff_getElem];exact⟨hj,h,fun i hi=>by rw[ha i (by omega) hi];simp⟩
 rw[this]
def Js3 (p:Rc ->Bool) (f:Nat) (cb:Array Value) (l:List Rc) (row:Option Nat) (w:World):Prop:=
 ∀ (W:World) (r:Rc),w.grownBy W row ->r∈l ->Cs f (#[r.val]++cb) W fun e w'=>e= .returned (p r)/\W.grownBy w' none
theorem Jgt{a b c:World}{row:Option Nat}(h:a.grownBy b row)(k:b.grownBy c none):a.grownBy c row:=h.andThen k (fun j hj=>by cases hj)
theorem Jw1(p:Rc ->Bool)(f:Nat)(cb:Array Value)(A:Option Addr)(n c:Nat)(l:List Rc)(w:World)(h:Rcs w A n l)(ef:∀args w,(callFunc f args).run Tryz.prog w= .ok (.enter f args) w)(hso:Js3 p f cb l none w):
  Cs 322 #[.slice A n c,.func (.func f) #[] cb] w fun e w'=>e= .returned (idxP p l:Int)/\w.grownBy w' none:=by
 have W:=h.n_le;have Y:=zI h.len;unfold maxLen at W;have V:Aside _:=hso;clear hso;go_enter Tryz.func322,Tryz.ntmps322;go_wp2;go_loopw [8] (fun i wr=>∃j:Nat,j<=n/\i= .int .i64 j/\(∀i (y:i<l.length),i<j ->p l[i]=false)/\w.grownBy wr none) (fun i _=>n - (intOf i).toNat)
 case atStart=>exact⟨0,qaq _,rfl,fun i _ y=>absurd y (by omega),qcc _ _⟩
 case round=>
  obtain⟨j,T,rfl,v,z⟩:=hrel;have o:=zI v;clear v;by_cases m:j<n
  · have K:j<l.length:=by rw[Y.out];exact m
    have t:Below w.heap.size w wr:=⟨z.os,z.tape,z.output,z.size,fun k hk=>z.block k hk (by simp)⟩;obtain⟨b,off,rfl,S,X⟩:=(h.below t).get K;obtain⟨r0,r1,r2,r3,r4,r5,r6⟩:=X;have g:=V.out wr _ z (qan K);have s:=zI (fun e:p (l[j]'K)=true=>J8j K e o.out)
    have q:=zI (fun e:p (l[j]'K)=false=>show ∀i (y:i<l.length),i<j+1 ->p l[i]=false from fun i y hij=>by
     by_cases e2:i=j
     · subst e2;exact e
     · exact o.out i y (by omega))
    clear t;generalize (l[j]'K)=x at*;cases hp:p x<;>rw[hp] at g s q
    · have d:=zI (q.out rfl)
      clear q s;go_wp2_with (go_at_fn f;refine g.mono ?_;rintro e w2 ⟨rfl,u⟩)
      go_roundw
      case rel=>exact⟨j+1,by omega,by go_num,d.out,Jgt z u⟩
      case measure=>simp[intOf];omega
    · have a:=zI (s.out rfl)
      clear q s;go_wp2_with (go_at_fn f;refine g.mono ?_;rintro e w2 ⟨rfl,u⟩)
      go_ret;exact⟨by rw[a.out];rfl,Jgt z u⟩
  · have Z:j=n:=by omega
    subst Z
    have U:=zI (J8i (p:=p) (l:=l) (fun r hr=>by
     obtain⟨i,y,rfl⟩:=qb5 hr;exact o.out i y (by rw[<- Y.out];exact y)))
    go_wp2;go_ret;exact⟨by rw[U.out];rfl,z⟩
structure Jeg (q:Rc ->Bool) (l R:List Rc) (j i:Nat):Prop where
 len:R.length=l.length
 done:R.take i=(l.take j).filter q
 high:R.drop j=l.drop j
 lt:i<j
 jl:j<=l.length
theorem Jeg.start{q:Rc ->Bool}{l:List Rc}{k:Nat}(hk:k<l.length)(h:q l[k]=false)(ha:∀i (hi:i<l.length),i<k ->q l[i]=true):Jeg q l l (k+1) k:=by
 refine⟨rfl,?_,rfl,by omega,by omega⟩;rw[qam hk,qcz,qbv,qay (by rw[h];simp),List.filter_nil,qbp];refine(qbx.2 fun r hr=> ?_).symm;obtain⟨i,hi,rfl⟩:=qb5 hr;rw[qao] at hi;rw[List.getElem_take];exact ha i (by omega) (by omega)
theorem Jeg.at_{q:Rc ->Bool}{l R:List Rc}{j i:Nat}(h:Jeg q l R j i)(hj:j<l.length)(hR:j<R.length):R[j]=l[j]:=by
 have z:R[j]? =l[j]? :=by
  have e1:(R.drop j)[0]? =R[j]? :=by rw[List.getElem?_drop];simp
  have e2:(l.drop j)[0]? =l[j]? :=by rw[List.getElem?_drop];simp
  rw[<- e1,h.high,e2]
 rw[qah hR,qah hj] at z;exact qbr z
theorem Jeg.keep{q:Rc ->Bool}{l R:List Rc}{j i:Nat}(h:Jeg q l R j i)(hj:j<l.length)(hq:q l[j]=true):Jeg q l (R.set i l[j]) (j+1) (i+1):=by
 have z:i<R.length:=by rw[h.len];have:=h.lt;have:=h.jl;omega
 refine⟨by rw[List.length_set,h.len],?_,?_,by have:=h.lt;omega,by omega⟩
 · rw[qam (by simpa using z),List.getElem_set_self,List.take_set_of_le (qab _),h.done,qam hj,qcz,qbv,qa0 hq,List.filter_nil]
 · rw[List.drop_set_of_lt (by have:=h.lt;omega)]
   have e1:R.drop (j+1)=(R.drop j).drop 1:=by rw[qdj]
   have e2:l.drop (j+1)=(l.drop j).drop 1:=by rw[qdj]
   rw[e1,e2,h.high]
theorem Jeg.skip{q:Rc ->Bool}{l R:List Rc}{j i:Nat}(h:Jeg q l R j i)(hj:j<l.length)(hq:q l[j]=false):Jeg q l R (j+1) i:=by
 refine⟨h.len,?_,?_,by have:=h.lt;omega,by omega⟩
 · rw[h.done,qam hj,qcz,qbv,qay (by rw[hq];simp),List.filter_nil,qbp]
 · have e1:R.drop (j+1)=(R.drop j).drop 1:=by rw[qdj]
   have e2:l.drop (j+1)=(l.drop j).drop 1:=by rw[qdj]
   rw[e1,e2,h.high]
theorem Jeg.end_{q:Rc ->Bool}{l R:List Rc}{i:Nat}(h:Jeg q l R l.length i):R.take i=l.filter q/\(l.filter q).length=i:=by
 have z:=h.done;rw[qca] at z;refine⟨z,?_⟩;rw[<- z,qao,h.len];have:=h.lt;omega
theorem Jw2(p:Rc ->Bool)(l:List Rc):(idxP p l= -1/\l.filter (fun r=> !p r)=l)\/∃k:Nat,∃hk:k<l.length,idxP p l=k/\p l[k]=true/\∀i (hi:i<l.length),i<k ->p l[i]=false:=by
 unfold idxP;cases h:l.findIdx? p with
 | none=>
   rw[List.findIdx?_eq_none_iff] at h;exact .inl ⟨rfl,qbx.2 fun r hr=>by have:=h r hr;simpa using this⟩
 | some k=>
   rw[List.findIdx?_eq_some_iff_getElem] at h;obtain⟨hk,z,y⟩:=h;exact .inr ⟨k,hk,rfl,z,fun i hi hik=>by simpa using y i hik⟩
theorem Js4(p:Rc ->Bool)(f:Nat)(cb:Array Value)(B:Nat)(v:Value)(l:List Rc)(w:World)(h:w.ownsRow B 142 7 v l.length (l.flatMap Rc.cells))(hok:∀r∈l,r.Ok)(hlen:l.length<1000000)(ef:∀args w,(callFunc f args).run Tryz.prog w= .ok (.enter f args) w)(hso:Js3 p f cb l v.ownBlock w):
  Cs 273 #[v,.func (.func f) #[] cb] w fun e w'=>∃v',e= .returned v'/\w'.ownsRow B 142 7 v' (l.filter fun r=> !p r).length ((l.filter fun r=> !p r).flatMap Rc.cells)/\w.grownBy w' v.ownBlock:=by
 obtain⟨A,c,rfl,U⟩:=Jsd h hok (by unfold maxLen;omega);have J:=Jw1 p f cb A l.length c l w U ef (fun W r hg hr=>hso W r (hg.but _) hr);rcases Jw2 p l with⟨e1,e2⟩ | ⟨k,hk,e1,T,S⟩
 · rw[e1] at J
   rw[e2];have HO:=zI h;clear h hso e1 e2;go_enter Tryz.func273,Tryz.ntmps273;go_wp2_with (go_at_call 322;refine J.mono ?_;rintro e w1 ⟨rfl,t⟩)
   go_ret;exact⟨_,rfl,HO.out.kept t (by cases A<;>simp[Value.ownBlock]),t.but _⟩
 · rw [e1] at J
   obtain⟨g,cap,cur,ev,I,b,H,G,P,ht⟩:∃g cap cur,Value.slice A l.length c= .slice (some ⟨g,0,none⟩) l.length cap/\B<=g/\w.heap[g]? =some (.cells cur 142 (0,0))/\l.length<=cap/\cap<=maxLen/\cur.size=cap*7/\cur.toList.take (l.length*7)=l.flatMap Rc.cells:=by
    rcases h.2 with⟨_,h0⟩ | h2
    · omega
    · exact h2
   obtain⟨rfl,F⟩:A=some ⟨g,0,none⟩/\cap=c:=by cases ev;exact⟨rfl,rfl⟩
   subst F;clear ev;have O:Jeb w g cap l:=⟨cur,b,H,G,P,ht⟩;have N:Value.ownBlock (.slice (some ⟨g,0,none⟩) l.length cap)=some g:=rfl;rw[N] at hso ⊢;have HD:Aside _:=hso;have HS:=zI (Jeg.start (q:=fun r=> !p r) hk (by simp[T]) (fun i hi hik=>by simp[S i hi hik]));clear h hso e1 T S b P ht N U;have Hb:((k:Int)== -1)=false:=qat.2 (by omega);go_enter Tryz.func273,Tryz.ntmps273;go_wp2_with (go_at_call 322;refine J.mono ?_;rintro e w1 ⟨rfl,t⟩)
   go_loopw [5,6] (fun s5 s6 wr=>∃ (i j:Nat) (R:List Rc),s5= .int .i64 i/\s6= .int .i64 j/\Jeb wr g cap R/\Jeg (fun r=> !p r) l R j i/\w.grownBy wr (some g)) (fun _ s6 _=>l.length - (intOf s6).toNat)
   case atStart=>exact⟨k,k+1,l,rfl,by go_num,O.kept t (by simp),HS.out,t.but _⟩
   case round=>
    obtain⟨i,j,R,rfl,rfl,Z,z,n⟩:=hrel;have Hd:=z.lt;have He:=z.jl;have HI:=zI z;have E:=z.len;by_cases y:j<l.length
    · have M:j<R.length:=by omega
      have Y:i<R.length:=(by omega);have L:=z.at_ y M;have X:=Z.get M;rw[L] at X;obtain⟨r0,r1,r2,r3,r4,r5,r6⟩:=X;have D:=HD.out (wr.alloc (.cells #[(l[j]'y).nm,((l[j]'y).st:Int),((l[j]'y).ag.c:Int),((l[j]'y).ag.hi:Int),.int .u64 (l[j]'y).ag.lo,((l[j]'y).ag.mn:Int),((l[j]'y).ag.mx:Int)] 142)) _ (Jgt n (qbl _ _ _)) (qan y);have m:=zI (z.keep y);have d:=zI (z.skip y);have HR:=zI Z;have Hf:=Z.lt;clear z L HI;generalize (l[j]'y)=x at*;cases hp:p x<;>rw[hp] at D m d
      · have V:=zI (m.out rfl)
        clear m d;have g0:(0:Int)<=(i:Int):=(by omega);have g1:(i:Int)<(l.length:Int):=(by omega)
        go_wp2_with (first
         | (go_at_fn f;refine D.mono ?_;rintro e w2 ⟨rfl,u⟩
            have R2:=(HR.out.kept (qbl wr (.cells #[x.nm,(x.st:Int),(x.ag.c:Int),(x.ag.hi:Int),.int .u64 x.ag.lo,(x.ag.mn:Int),(x.ag.mx:Int)] 142) none) (by simp)).kept u (by simp);obtain⟨y0,y1,y2,y3,y4,y5,y6⟩:=R2.get Y;have f0:=R2.free (i*7);have f1:=R2.free (i*7+1);have f2:=R2.free (i*7+2);have f3:=R2.free (i*7+3);have f4:=R2.free (i*7+4);have f5:=R2.free (i*7+5);have f6:=R2.free (i*7+6);obtain⟨z0,z1,z2,z3,z4,z5,z6⟩:=(Jbv.new wr x).keep u (by simp);have C:=zI R2;clear R2))
        go_roundw
        case rel=>exact⟨i+1,j+1,R.set i x,by go_num,by go_num,C.out.set i x,V.out,(Jgt (Jgt n (qbl _ _ _)) u).andThen (Jei g x.cells (i*7) w2) (fun j hj=>by cases hj;exact Or.inr rfl)⟩
        case measure=>simp[intOf];omega
      · have V:=zI (d.out rfl)
        clear m d;go_wp2_with (go_at_fn f;refine D.mono ?_;rintro e w2 ⟨rfl,u⟩)
        go_roundw
        case rel=>exact⟨i,j+1,R,rfl,by go_num,(HR.out.kept (qbl _ _ none) (by simp)).kept u (by simp),V.out,(Jgt n (qbl _ _ _)).andThen u (fun j hj=>by cases hj)⟩
        case measure=>simp[intOf];omega
    · have hJ:j=l.length:=by omega
      subst hJ;obtain⟨a,s⟩:=z.end_;have Y:i<R.length:=(by omega);have Hc:=Z.le;obtain⟨vs,Ha⟩:=J02 Z i Y (cap - i) 0;rw[E] at Ha;have o:=Z.cut i (by omega) vs;rw[a] at o;have HC:=zI o;have K:=zI s;clear o a s HI z Z;go_wp2;go_ret;have ho:=HC.out.own I;rw[K.out] at ho;rw[K.out];exact⟨_,rfl,ho,n.andThen (Jei g vs (i*7) wr) (fun j hj=>by cases hj;exact Or.inr rfl)⟩
theorem Jan.ok{w:World}{g mm:Nat}{ev:Int}{l:List Rc}(h:Jan w g mm ev l):∀r∈l,r.Ok:=by obtain⟨_,_,z⟩:=h.map.own;exact z.ok
def rngP (s:ByteArray) (a b:Int) (r:Rc):Bool:=(!r.nm.toList==s.toList) || decide (r.st<a) || decide (b<=r.st)
theorem Jw3(s:ByteArray)(a b:Int)(b0:Nat)(r:Rc)(w:World)(h0:w.cell? ⟨b0,0,none⟩=some (.string s))(h1:w.cell? ⟨b0+1,0,none⟩=some (.int .i64 a))(h2:w.cell? ⟨b0+2,0,none⟩=some (.int .i64 b)):
  Cs 274 #[r.val,b0,.pointer (some ⟨b0+1,0,none⟩),.pointer (some ⟨b0+2,0,none⟩)] w fun e w'=>e= .returned (rngP s a b r)/\w.grownBy w' none:=by
 have l0:=qba w _ h0;have l1:=qba w _ h1;have l2:=qba w _ h2;simp only at l0 l1 l2;go_enter Tryz.func274,Tryz.ntmps274;go_wp2
 all_goals
  go_ret;exact⟨Jal (by simp_all [rngP]),qbl _ _ _⟩
theorem Jw4(s:ByteArray)(a b:Int){w:World}{g mm:Nat}{ev:Int}{l:List Rc}(h:Jan w g mm ev l)(hfew:l.length<1000000):
  Cs 209 #[g,(s:ByteArray),(a:Int),(b:Int)] w fun e w'=>∃v,e= .returned v/\w'.ownsRow w.heap.size 142 7 v (l.filter fun r=> !rngP s a b r).length ((l.filter fun r=> !rngP s a b r).flatMap Rc.cells)/\Below w.heap.size w w':=by
 have u:Below w.heap.size w (((w.alloc (.cells #[s] 9)).alloc (.cells #[(a:Int)] 3)).alloc (.cells #[(b:Int)] 3)):=(((qaa _ _).alloc (qab _) _).alloc (by simp) _).alloc (by simp;omega) _;have d:=h.below u;have c0:(((w.alloc (.cells #[s] 9)).alloc (.cells #[(a:Int)] 3)).alloc (.cells #[(b:Int)] 3)).cell? ⟨w.heap.size,0,none⟩=some (.string s):=by simp[go_sem,qb0]
 have c1:(((w.alloc (.cells #[s] 9)).alloc (.cells #[(a:Int)] 3)).alloc (.cells #[(b:Int)] 3)).cell? ⟨w.heap.size+1,0,none⟩=some (.int .i64 a):=by simp[go_sem,qb0]
 have c2:(((w.alloc (.cells #[s] 9)).alloc (.cells #[(a:Int)] 3)).alloc (.cells #[(b:Int)] 3)).cell? ⟨w.heap.size+2,0,none⟩=some (.int .i64 b):=by simp[go_sem]
 have t:(((w.alloc (.cells #[s] 9)).alloc (.cells #[(a:Int)] 3)).alloc (.cells #[(b:Int)] 3)).heap.size=w.heap.size+3:=by simp
 have m:=zI h.ok;have q:=zI t;have C0:=zI c0;have C1:=zI c1;have C2:=zI c2;clear t c0 c1 c2;go_enter Tryz.func209,Tryz.ntmps209;go_wp2_with fail
 refine(Jn3 d hfew).mono ?_;rintro e w4 ⟨v,rfl,z,y⟩;rw[q.out] at z y;have j:=y.size;rw[q.out] at j
 have n:Js3 (rngP s a b) 274 #[w.heap.size,.pointer (some ⟨w.heap.size+1,0,none⟩),.pointer (some ⟨w.heap.size+2,0,none⟩)] l v.ownBlock w4:=fun W r hg _=>by
  have e0:∀o,o<3 ->some (w.heap.size+o)≠v.ownBlock:=fun o ho e=>by have:=(z.lt _ e.symm).1;omega
  exact Jw3 s a b w.heap.size r W (hg.cell ((y.cell (p:=⟨w.heap.size,0,none⟩) (by simp)).trans C0.out) (e0 0 (by omega))) (hg.cell ((y.cell (p:=⟨w.heap.size+1,0,none⟩) (by simp)).trans C1.out) (e0 1 (by omega))) (hg.cell ((y.cell (p:=⟨w.heap.size+2,0,none⟩) (by simp)).trans C2.out) (e0 2 (by omega)))
 have c:=Js4 (rngP s a b) 274 _ _ v l w4 z m.out hfew (enters_of Tryz.func274 (by kernel_rfl) rfl) n;have f:=z.lt;have Z:=zI f;clear n z f;go_wp2_with fail
 refine c.mono ?_;rintro e w5 ⟨v',rfl,x,i⟩;go_wp2;go_ret;exact⟨_,rfl,Jgj x (by omega),(u.trans (y.mono (by omega))).grown i (by omega) (fun k hk=>by have:=(Z.out k hk).1;omega)⟩
end Go.Proofs.YtglmhddbhhcjdaaGreatDoor
namespace Go.Proofs.YtglmhddbhhcjdaaGreatDoor
open Go.ChangeShapes Go.WideShapes Go.ChangeAt Go.RowKit Go.Deep
theorem J03(A:Option Addr)(n c:Nat)(B:Option Addr)(m d:Nat)(r:Rch)(f:Int)(w:World)(h:Jem w A n B m r)(hn:n<=1000000):
  Cs 208 #[rchV r.now r.nm A n c B m d,(f:Int)] w (RB w (r.cover f:Int)):=by
 have t:Below w.heap.size w (w.alloc (.cells #[(r.now:Int),r.nm,.slice A n c,.slice B m d] 161)):=(qaa _ w).alloc (qab _) _;have b0:=Bx.new w 161 #[(r.now:Int),r.nm,.slice A n c,.slice B m d];have o:=zI h.ts.len;have a:=zI h;clear h;go_enter Tryz.func208,Tryz.ntmps208;go_wp2_with fail
 go_loopw [5,10] (fun _ i wr=>∃j:Nat,j<=n/\i= .int .i64 j/\Hid (∀i,i<j ->f<r.from_ i)/\Bx wr w.heap.size 161 #[(r.now:Int),r.nm,.slice A n c,.slice B m d]/\Below w.heap.size w wr) (fun _ i _=>n - (intOf i).toNat)
 case atStart=>exact⟨0,qaq _,rfl,zI (fun i u=>absurd u (by omega)),b0,t⟩
 case round=>
  clear b0 t;obtain⟨j,Y,rfl,l,p,y⟩:=hrel;have q0:=p.at_ 0 rfl;have q1:=p.at_ 1 rfl;have q2:=p.at_ 2 rfl;have q3:=p.at_ 3 rfl;by_cases s:j<n
  · have v:=zI (Jg8 A n c B m d r j wr (a.out.below y) hn s)
    obtain⟨z,q⟩:∃z,r.from_ j=z:=⟨_,rfl⟩;rw[q] at v;by_cases b:z<=f
    · have k:=zI (J3h (r:=r) (f:=f) (j:=j) (by rw[o.out];exact s) (by rw[q];exact b) (fun i u=>by have:=l.out i u;omega))
      clear q;go_wp2_with fail
      refine v.out.mono ?_;rintro e w2 ⟨rfl,x⟩;go_wp2;go_ret;exact⟨Jby k.out.symm,y.trans (x.mono y.size)⟩
    · have Z:=zI (show ∀i,i<j+1 ->f<r.from_ i from fun i u=>by
       by_cases e:i=j
       · subst e;omega
       · exact l.out i (by omega))
      have W:decide (z<=f)=false:=qae b;clear q;go_wp2_with fail
      refine v.out.mono ?_;rintro e w2 ⟨rfl,x⟩;go_wp2_with fail
      go_roundw
      case rel=>exact⟨j+1,by omega,by go_num,Z,p.below x,y.trans (x.mono y.size)⟩
      case measure=>simp[intOf];omega
  · have g:j=n:=by omega
    subst g;have k:=zI (show r.cover f=(j:Int) - 1 from by rw[J3i (r:=r) (f:=f) (by rw[o.out];intro i u;have:=l.out i u;omega),o.out]);go_wp2;go_ret;exact⟨Jby k.out.symm,y⟩
section
variable {H:Type} {enc:TypeId×Value ->H} {w:World} {base:Nat} {spare:Nat ->Bool} {held:Bool}
theorem Js5{m:Nat}{cs:List Value}{y:DataW H×List MemPlace}(h:DataW.trod enc Tryz.prog w base spare held m 85 cs=some y):∃s:Smp,cs=s.cells/\s.Ok:=by
 obtain⟨xs,n,_,_,q,x,v⟩:=DataW.trod_struct Tryz.underlying85 h;have p:Tryz.prog.cellsOf 85=3:=by kernel_rfl
 rw[p] at q;have o:xs.length=3:=x
 match cs,q with
 | [c0,c1,c2],_=>
   have at_:∀i,i<3 ->∃z,xs[i]? =some z:=fun i hi=>⟨_,qah (by omega)⟩;obtain⟨y0,e0⟩:=at_ 0 (by omega);obtain⟨y1,e1⟩:=at_ 1 (by omega);obtain⟨y2,e2⟩:=at_ 2 (by omega);have ks:Tryz.prog.cellsOf 9=1:=by kernel_rfl
   have ki:Tryz.prog.cellsOf 3=1:=by kernel_rfl
   have t0:DataW.trod enc Tryz.prog w base spare held n 9 [c0]=some y0:=by
    rw[<- e0,<- v 0 _ rfl];show _=DataW.trod enc Tryz.prog w base spare held n 9 (List.take (Tryz.prog.cellsOf 9) [c0,c1,c2]);rw[ks];rfl
   have t1:DataW.trod enc Tryz.prog w base spare held n 3 [c1]=some y1:=by
    rw[<- e1,<- v 1 _ rfl];show _=DataW.trod enc Tryz.prog w base spare held n 3 (List.take (Tryz.prog.cellsOf 3) [c1,c2]);rw[ki];rfl
   have t2:DataW.trod enc Tryz.prog w base spare held n 3 [c2]=some y2:=by
    rw[<- e2,<- v 2 _ rfl];show _=DataW.trod enc Tryz.prog w base spare held n 3 (List.take (Tryz.prog.cellsOf 3) [c2]);rw[ki];rfl
   obtain⟨a0,u,_,w0⟩:=DataW.trod_string Tryz.underlying9 t0;obtain⟨a1,t,_,w1⟩:=DataW.trod_int Tryz.underlying3 t1;obtain⟨a2,r,_,w2⟩:=DataW.trod_int Tryz.underlying3 t2;injection u with u;injection t with t;injection r with r;subst u t r;exact⟨⟨a0,a1,a2⟩,rfl,w0,Jit w1,Jit w2⟩
theorem J04{α:Type}{cs:α ->List Value}{k:Nat}(hk:∀x,(cs x).length=k)(hk0:0<k){A:Option Addr}{n:Nat}{Q:α ->Prop}(hr:∀i,i<n ->∃b off x,A=some ⟨b,off,none⟩/\b<w.heap.size/\Q x/\∀j u,(cs x)[j]? =some u ->w.cell? ⟨b,off+(i*k+j),none⟩=some u):
  ∃l:List α,l.length=n/\Sl w A (l.flatMap cs)/\∀x∈l,Q x:=by
 obtain⟨l,t,y⟩:=Jkb (P:=fun i (x:α)=>Q x/\∃b off,A=some ⟨b,off,none⟩/\b<w.heap.size/\∀j u,(cs x)[j]? =some u ->w.cell? ⟨b,off+(i*k+j),none⟩=some u) n (fun i z=>by
  obtain⟨b,off,x,s,q,p,o⟩:=hr i z;exact⟨x,p,b,off,s,q,o⟩)
 refine⟨l,t,⟨fun hne=> ?_⟩,fun x hx=>by obtain⟨i,z,rfl⟩:=qb5 hx;exact(y i z).1⟩
 have m:0<l.length:=by
  cases l with
  | nil=>exact absurd rfl hne
  | cons a r=>simp
 obtain⟨_,b,off,e,h,_⟩:=y 0 m;refine⟨b,off,e,h,fun j u hu=> ?_⟩;have g:j<l.length*k:=by have:=(qbs.1 hu).1;rwa [Jca hk] at this
 have z:j / k<l.length:=(Nat.div_lt_iff_lt_mul hk0).2 g;obtain⟨_,b',off',e',_,f⟩:=y (j / k) z;rw[e] at e';cases e'
 have v:=Jdh hk l (j / k) z (j % k) (Nat.mod_lt _ hk0);rw[Nat.div_add_mod' j k,hu] at v;have:=f (j % k) u v.symm
 rwa [Nat.div_add_mod' j k] at this
theorem Jq3{A:Option Addr}{n c:Nat}{d:DataW H}{p:List MemPlace}(h:DataW.Trod enc Tryz.prog w base spare held 22 (.slice A n c) d p):∃l,Smps w A n l:=by
 have z:Tryz.prog.cellsOf 85=3:=by kernel_rfl
 obtain⟨v,u⟩:=Jo8 Tryz.underlying22 (by rw[z];omega) h
 obtain⟨l,s,r,q⟩:=J04 (w:=w) (A:=A) (n:=n) Jzl (by omega) (Q:=Smp.Ok) (fun i hi=>by
  obtain⟨b,off,cs,m,y,e,o,_,x,k⟩:=u i hi;rw[z] at x;obtain⟨t,rfl,j⟩:=Js5 k;exact⟨b,off,t,e,o,j,x⟩)
 exact⟨l,r,s,v,q⟩
structure J05 (w:World) (v:Value) (x:Option Addr×Nat×Nat×List Smp):Prop where
 val:v= .slice x.1 x.2.1 x.2.2.1
 sm:Smps w x.1 x.2.1 x.2.2.2
theorem J06{r:Go.Reach}{b0:Nat}{v:Value}{d:DataW H}{p:List MemPlace}(hv:Value.okWide Tryz.prog w r b0 22 v)(h:DataW.Trod enc Tryz.prog w base spare held 22 v d p):∃x,J05 w v x:=by
 obtain⟨a,len,cap,rfl⟩:=okWide_slice Tryz.underlying22 hv;obtain⟨l,z⟩:=Jq3 h;exact⟨(a,len,cap,l),rfl,z⟩
end
def Jor (few:Int) (n:Nat) (w:World) (e:Ending) (w':World):Prop:=∃b:Bool,e= .returned b/\(b=true ->(n:Int)<=few)/\w=w'
theorem J46(few:Int)(A:Option Addr)(n cap:Nat)(l:List Smp)(w:World)(h:Smps w A n l)(hf:0<=few/\few<=1000):
  Cs 7 #[(few:Int),.slice A n cap] w (Jor few n w):=by
 have q:=h.n_le;have p:=zI h.len;unfold maxLen at q;obtain⟨o,m⟩:=hf;go_enter Tryz.func7,Tryz.ntmps7;go_wp2;go_loop [5] (fun i=>∃j:Nat,j<=n/\i= .int .i64 j) (fun i=>n - (intOf i).toNat)
 case atStart=>exact⟨0,qaq _,rfl⟩
 case round=>
  obtain⟨j,d,rfl⟩:=hrel;have z:∀b:Bool,b=decide ((n:Int)<=few) ->Jor few n w (.returned (b:Bool)) w:=fun b v=>⟨b,rfl,fun e=>by rw[e] at v;simpa using v.symm,rfl⟩;have y:Jor few n w (.returned false) w:=⟨false,rfl,by simp,rfl⟩;have r:=zI z;have k:=zI y;clear z y;by_cases u:j<n
  · by_cases t:(j:Int)<few
    · have K:j<l.length:=by rw[p.out];exact u
      obtain⟨b,off,rfl,v,X⟩:=h.get K;have r0:=X.c0;have s:=(h.ok _ (qan K)).nm;unfold maxLen at s;clear X;generalize (l[j]'K)=x at*;have g0:(0:Int)<=(j:Int):=(by omega);have g1:(j:Int)<(n:Int):=(by omega);by_cases g:60<x.nm.size
      · go_wp2
        go_ret;exact k.out
      · go_wp2
        go_round
        case rel=>exact⟨j+1,by omega,by go_num⟩
        case measure=>simp[intOf];omega
    · have f:decide ((j:Int)<few)=false:=qae t
      go_wp2;go_ret;exact r.out _ rfl
  · have f:decide ((j:Int)<(n:Int))=false:=qae (by omega)
    go_wp2;go_ret;exact r.out _ rfl
end Go.Proofs.YtglmhddbhhcjdaaGreatDoor
namespace Go.Proofs.YtglmhddbhhcjdaaGreatDoor.auditCorrupt
open Go.ChangeShapes Go.WideShapes Go.ChangeAt
theorem k1:(Rows.auditCorruptRow.wf (OpenSpec.ofChange (OpenSpec.ofChange Rows.auditCorruptSpec).bare))=true:=by kernel_rfl
theorem k2:(laidOutB Tryz.pinned.checked.prog)=true:=by kernel_rfl
theorem k3:(mapsRowed Tryz.pinned.checked.prog)=true:=by kernel_rfl
theorem k4:(Tryz.f4.params.all (Tryz.pinned.checked.prog.readableRec ·))=true:=by kernel_rfl
theorem k5:(namedTie Tryz.pinned.checked.prog Rows.auditCorruptRow.named (OpenSpec.ofChange Rows.auditCorruptSpec).bare.vars)=true:=by kernel_rfl
theorem k6:(Rows.auditCorruptRow.stops==[])=true:=by kernel_rfl
theorem k7:(Tryz.pinned.checked.prog.stops==[])=true:=by kernel_rfl
theorem k8:(Rows.auditCorruptRow.knobs==[])=true:=by kernel_rfl
theorem k9:(Tryz.pinned.checked.prog.stopKnobs==[])=true:=by kernel_rfl
theorem k10:(Rows.auditCorruptRow.inPlace==Tryz.pinned.checked.prog.inPlace 4)=true:=by kernel_rfl
theorem k11:(Rows.auditCorruptRow.unfollowed==Tryz.pinned.checked.prog.unfollowed 4)=true:=by kernel_rfl
theorem k12:(Rows.auditCorruptRow.recurses==Tryz.pinned.checked.prog.recurses 4)=true:=by kernel_rfl
theorem k13:(Rows.auditCorruptRow.named==Tryz.pinned.checked.prog.varsNamed 4)=true:=by kernel_rfl
theorem k14:(Rows.auditCorruptRow.maps==(Tryz.f4.params.toList++(OpenSpec.ofChange Rows.auditCorruptSpec).bare.plain.varTypes Tryz.pinned.checked.prog).any (Tryz.pinned.checked.prog.mapsRec ·))=true:=by kernel_rfl
theorem k15:(Rows.auditCorruptRow.ifaces==(Tryz.f4.params.toList++(OpenSpec.ofChange Rows.auditCorruptSpec).bare.plain.varTypes Tryz.pinned.checked.prog).any (Tryz.pinned.checked.prog.ifacesRec ·))=true:=by kernel_rfl
theorem k16:(Rows.auditCorruptRow.mapsOut==Tryz.pinned.checked.prog.mapsAmong Tryz.f4.resultTypes.toList)=true:=by kernel_rfl
theorem k17:(Rows.auditCorruptRow.loops==(Tryz.f4.params.toList++(OpenSpec.ofChange Rows.auditCorruptSpec).bare.plain.varTypes Tryz.pinned.checked.prog).any (Tryz.pinned.checked.prog.loopsFrom ·))=true:=by kernel_rfl
theorem k18:(Rows.auditCorruptRow.wideKeys==(Tryz.f4.params.toList++(OpenSpec.ofChange Rows.auditCorruptSpec).bare.plain.varTypes Tryz.pinned.checked.prog++Tryz.f4.resultTypes.toList).any (Tryz.pinned.checked.prog.wideKeysFrom ·))=true:=by kernel_rfl
theorem k19:((OpenSpec.ofChange Rows.auditCorruptSpec).bare.vars.all (Tryz.pinned.checked.prog.varReadable ·))=true:=by kernel_rfl
theorem k20:(Tryz.f4.resultTypes.all (fun t=>Tryz.pinned.checked.prog.readableRec t && decide (t<Tryz.pinned.checked.prog.types.size)))=true:=by kernel_rfl
theorem k21:(Rows.auditCorruptRow.ifacesOut==Tryz.f4.resultTypes.toList.any (Tryz.pinned.checked.prog.ifacesRec ·))=true:=by kernel_rfl
theorem k22:(Rows.auditCorruptRow.loopsOut==Tryz.f4.resultTypes.toList.any (Tryz.pinned.checked.prog.loopsFrom ·))=true:=by kernel_rfl
theorem k23:(Rows.auditCorruptRow.plainKeys==Tryz.pinned.checked.prog.plainKeys)=true:=by kernel_rfl
theorem k24:(Rows.auditCorruptRow.shortTexts.isNone)=true:=by kernel_rfl
theorem k25:(Tryz.pinned.checked.prog.stopsHeard)=true:=by kernel_rfl
theorem k26:(Tryz.pinned.checked.prog.mayEnter)=true:=by kernel_rfl
theorem k27:(Rows.auditCorruptRow.lifted==Tryz.pinned.checked.prog.liftsFinal)=true:=by kernel_rfl
theorem k28:(Tryz.pinned.checked.prog.make==some Rows.auditCorruptRow.make)=true:=by kernel_rfl
theorem k29:(Rows.auditCorruptRow.kinds==(if Rows.auditCorruptRow.domain.isEmpty then [] else Tryz.f4.params.toList.map fun t=>match Tryz.pinned.checked.prog.underlying t with | some (.int k)=>some k | _=>none))=true:=by kernel_rfl
theorem k30:(Rows.auditCorruptRow.pinned==Rows.auditCorruptRow.pinnedBy)=true:=by kernel_rfl
theorem k31:(Rows.auditCorruptRow.veiled==(Tryz.f4.params.toList++(OpenSpec.ofChange Rows.auditCorruptSpec).bare.plain.varTypes Tryz.pinned.checked.prog++Tryz.f4.resultTypes.toList).any (Tryz.pinned.checked.prog.veiledRec ·))=true:=by kernel_rfl
theorem k32:(Rows.auditCorruptRow.veiledFits Tryz.pinned.checked.prog Tryz.f4.params.toList (Tryz.f4.params.toList++(OpenSpec.ofChange Rows.auditCorruptSpec).bare.plain.varTypes Tryz.pinned.checked.prog++Tryz.f4.resultTypes.toList))=true:=by kernel_rfl
theorem bAnd{a b:Bool}(h:a=true)(k:b=true):(a && b)=true:=by rw[h,k];rfl
end Go.Proofs.YtglmhddbhhcjdaaGreatDoor.auditCorrupt
namespace Go.Proofs.YtglmhddbhhcjdaaGreatDoor.auditCorrupt
theorem closed:joinedFacts Tryz.pinned.checked.prog 4 Tryz.f4 (OpenSpec.ofChange Rows.auditCorruptSpec).bare Rows.auditCorruptRow=true:=by
 unfold joinedFacts;exact bAnd (bAnd (bAnd (bAnd (bAnd (bAnd (bAnd (bAnd (bAnd (bAnd (bAnd (bAnd (bAnd (bAnd (bAnd (bAnd (bAnd (bAnd (bAnd (bAnd (bAnd (bAnd (bAnd (bAnd (bAnd (bAnd (bAnd (bAnd (bAnd (bAnd (bAnd k1 k2) k3) k4) k5) k6) k7) k8) k9) k10) k11) k12) k13) k14) k15) k16) k17) k18) k19) k20) k21) k22) k23) k24) k25) k26) k27) k28) k29) k30) k31) k32
