/-
  Several texts in one: Eq, StoB, Walh, Wall, Tkea, Tpue, Opf, SmpP, Oplp, Ttick, RecRow, RecDel, TableOk, TableRange, ReachC, SmpI, RunS, ShelfD, AuditFreshFit, AuditFreshFitB.
-/
import Derived.Test.YtglmhddbhhcjdaaGreatDoorRows
import Derived.JoinedCond
import Derived.Test.YtglmhddbhhcjdaaGreatDoorV27
import Derived.Test.YtglmhddbhhcjdaaGreatDoorV29
import Derived.Test.YtglmhddbhhcjdaaGreatDoorV25
set_option maxRecDepth 100000
set_option linter.unusedSimpArgs false
set_option maxHeartbeats 4000000
namespace Go.Proofs.YtglmhddbhhcjdaaGreatDoor
open Go.ChangeShapes Go.WideShapes Go.ChangeAt Go.RowKit Go.Deep
theorem J0d(A B:Option Addr)(n c d:Nat)(l:List Rc)(w:World)(hA:Rcs w A n l)(hB:Rcs w B n l):
  Cs 68 #[.slice A n c,.slice B n d] w fun e w'=>e= .returned (true:Bool)/\∃q,w'=w.drewN q:=by
 have t:=hA.n_le;unfold maxLen at t;have s:=zI hA.len;go_enter Tryz.func68,Tryz.ntmps68;go_wp2_with fail
 obtain⟨w6,y⟩:=exE w;subst y;go_loopw [5,13] (fun _ i wr=>∃j:Nat,j<=n/\i= .int .i64 j/\Below w6.heap.size w6 wr/\Hid (∃q,wr=w6.drewN q)) (fun _ i _=>n - (intOf i).toNat)
 case atStart=>exact⟨0,qaq _,rfl,qaa _ _,zI ⟨0,rfl⟩⟩
 case round=>
  obtain⟨j,o,rfl,z,u⟩:=hrel;by_cases v:j<n
  · have K:j<l.length:=by rw[s.out];exact v
    obtain⟨g1,o1,rfl,m,X⟩:=(hA.below z).get K;obtain⟨g2,o2,rfl,r,Y⟩:=(hB.below z).get K;obtain⟨r0,r1,r2,r3,r4,r5,r6⟩:=X;obtain⟨s0,s1,s2,s3,s4,s5,s6⟩:=Y;generalize l[j]'K=x at*;have g0:(0:Int)<=(j:Int):=(by omega);have g1:(j:Int)<(n:Int):=(by omega);go_wp2_with fail
    go_quiet (fail)
    go_wp2_with fail
    go_roundw
    case rel=>exact⟨j+1,by omega,by go_num,below_drewN z _,zI (by obtain⟨q,p⟩:=u.out;exact⟨q+nq,by rw[p,World.drewN_drewN]⟩)⟩
    case measure=>simp[intOf];omega
  · have k:decide ((j:Int)<(n:Int))=false:=qae (by omega)
    go_wp2_with fail
    go_ret;exact⟨rfl,u.out⟩
end Go.Proofs.YtglmhddbhhcjdaaGreatDoor
namespace Go.Proofs.YtglmhddbhhcjdaaGreatDoor
open Go.RowKit
def bksL (f:Int ->Option ByteArray) (zs:List Int):List Value:=zs.map fun z=>Value.string (Jbd f z)
theorem Jqu(f:Int ->Option ByteArray)(zs:List Int)(z:Int):bksL f (zs++[z])=bksL f zs++[.string (Jbd f z)]:=by simp[bksL]
theorem Jwe{F:Nat ->Prop}{g N n0:Nat}{f fl:Int ->Option ByteArray}{ws:List (Int×ByteArray)}(w:World)(h:DkAt w F g N n0 f fl ws)(A:Option Addr)(n c:Nat)(zs:List Int)(hz:Ints w .i64 A n zs)(hin:∀z∈zs,0<=z/\z<(N:Int))(hn:n<=900000):
  Cs 212 #[g,.slice A n c] w fun e w'=>∃v,e= .returned (.tuple #[v,(0:Int)])/\w'.ownsRow w.heap.size 9 1 v n (bksL f zs)/\Below w.heap.size w w':=by
 have R:=zI (fun W (hW:Below w.heap.size w W) j (hj:j<N)=>Joa (h.below hW) j hj);have P:=zI hz;have p:=zI hz.len;have i:=zI hin;clear h hz hin;go_enter Tryz.func212,Tryz.ntmps212;go_wp2_with fail
 go_loopw [6,13] (fun v j wr=>∃q:Nat,q<=n/\j= .int .i64 (q:Int)/\wr.ownsRow w.heap.size 9 1 v q (bksL f (zs.take q))/\Below w.heap.size w wr) (fun _ j _=>n - (intOf j).toNat)
 case atStart=>exact⟨0,qaq _,rfl,qax _ _ _ _,qaa _ _⟩
 case round=>
  obtain⟨q,D,rfl,y,r⟩:=hrel;by_cases d:q<n
  · have K:q<zs.length:=by rw[p.out];exact d
    obtain⟨b,off,rfl,O,M⟩:=(P.out.below r).get K;have L:=zI (show bksL f (zs.take (q+1))=bksL f (zs.take q)++[.string (Jbd f zs[q])] from by rw[qak K,Jqu]);have J:=i.out _ (qal K);generalize zs[q]'K=z at*;obtain⟨k,rfl⟩:∃k:Nat,z=(k:Int):=⟨z.toNat,by omega⟩;have I:=zI (R.out _ r k (by omega));have a:=zI y;have l:=zI r;have H:=zI (show q+1<=1000000 from by omega);generalize Jbd f (k:Int)=Z at*;clear y r;go_wp2_with fail
    refine I.out.mono ?_;rintro e w2 ⟨rfl,x⟩;have t:=x.alloc x.size (.cells #[Z] 9);have Y:=zI (Sl.new w2 9 w2.heap.size [Z] #[Z] rfl rfl);have V:=zI (show ∀u∈([Z]:List Value),u.oneCell'=true from by intro u G;rw[qaz.1 G];rfl);have o:=zI (Jah a.out t);have s:=zI (l.out.trans (t.mono l.out.size));clear x t;go_wp2_with (at_builtin;refine Jj6 rfl _ _ rfl o.out rfl (some ⟨w2.heap.size,0,none⟩) 1 1 [Z] rfl rfl Y.out V.out H.out s.out.size ?_;intro A' c' w5 m U)
    have T:=Jbw o.out U s.out s.out.size;rw[<- L.out] at m;go_roundw
    case rel=>exact⟨q+1,by omega,by go_num,m,T⟩
    case measure=>simp[intOf];omega
  · have S:q=n:=by omega
    have E:=zI (show zs.take q=zs from qao (by rw[p.out];omega));rw[E.out,S] at y;have a:=zI y;have l:=zI r;clear y r;go_wp2_with fail
    go_ret2;exact⟨_,rfl,a.out,l.out⟩
def wlM:List UInt8:=[87,76,79,71]
def wlHd (gen number place of n:Nat):List UInt8:=wlM++(le 8 gen++(le 4 number++(le 2 place++(le 2 of++(le 2 n++zeros 10)))))
def wlBk (gen number place of:Nat) (l:List UInt8):List UInt8:=wlHd gen number place of l.length++(l++zeros (224 - l.length))
theorem Jjk(gen number place of n:Nat):(wlHd gen number place of n).length=32:=by simp[wlHd,wlM]
theorem J4a(gen number place of:Nat){l:List UInt8}(h:l.length<=224):(wlBk gen number place of l).length=256:=by
 unfold wlBk;rw[qad,qad,Jjk,Jcj];omega
def wlN (n:Nat):Nat:=if n=0 then 1 else (n - 1) / 224+1
def wlPt (l:List UInt8) (p:Nat):List UInt8:=(l.drop (224*p)).take 224
def wlL (gen number:Nat) (l:List UInt8):List ByteArray:=(List.range (wlN l.length)).map fun p=>strOf (wlBk gen number p (wlN l.length) (wlPt l p))
theorem J9l:Jc2 4:=by unfold Jc2;simp
abbrev lbV (gen number place of n:Nat):Value:= .agg #[.int .u64 (gen:Int),(number:Int),(place:Int),(of:Int),(n:Int)]
structure J9m (gen number place of n:Nat):Prop where
 gen:gen<18446744073709551616
 number:number<65536
 place:place<65536
 of:of<65536
 n:n<65536
theorem J4b(gen number place of n:Nat)(w:World)(h:J9m gen number place of n):
  Cs 380 #[lbV gen number place of n] w (RB w (strOf (wlHd gen number place of n))):=by
 have u:=(qaa w.heap.size w).alloc (qab _) (.cells #[.int .u64 (gen:Int),(number:Int),(place:Int),(of:Int),(n:Int)] 423);have y:=Bx.new w 423 #[.int .u64 (gen:Int),(number:Int),(place:Int),(of:Int),(n:Int)];obtain⟨w1,t⟩:=exE (w.alloc (.cells #[.int .u64 (gen:Int),(number:Int),(place:Int),(of:Int),(n:Int)] 423));rw[<- t] at u y;have o:=zI t;have x:=zI y;have s:=zI u;have p:=zI h;have s0:=y.at_ 0 (v:= .int .u64 (gen:Int)) rfl;have m:=y.lt;clear t u y h;go_enter Tryz.func380,Tryz.ntmps380;go_upto_region 1 with fail
 rw[<- o.out];go_wp2_with fail
 refine(LayW.words0 w1 [gen] 1 1 #[.int .u64 (gen:Int)] rfl rfl (by omega)).mono ?_;rintro e w3 ⟨rfl,z⟩;have k:=zI z;have s1:=(z.bx x.out).at_ 1 (v:= (number:Int)) rfl;clear z s0 m;go_wp2_with fail
 refine(k.out.small 4 J9l [number] (by have:=p.out.number;simp;omega) 1 1 #[(number:Int)] rfl rfl (by simp)).mono ?_;rintro e w4 ⟨rfl,z⟩;have j:=zI z;have s2:=(z.bx x.out).at_ 2 (v:= (place:Int)) rfl;have s3:=(z.bx x.out).at_ 3 (v:= (of:Int)) rfl;have s4:=(z.bx x.out).at_ 4 (v:= (n:Int)) rfl;clear z s1;go_wp2_with fail
 refine(j.out.small 2 Jqo [place,of,n] (by have:=p.out.place;have:=p.out.of;have:=p.out.n;simp;omega) 3 3 #[(place:Int),(of:Int),(n:Int)] rfl rfl (by simp)).mono ?_;rintro e w5 ⟨rfl,z⟩;have i:=zI z;clear z s2 s3 s4;go_wp2_with fail
 refine(i.out.fill 28 (by simp) (by omega)).mono ?_;rintro e w6 ⟨rfl,z⟩;have r:=zI z;clear z;go_wp2_with fail
 refine r.out.done.mono ?_;rintro e w7 ⟨rfl,d⟩;subst d;have q:∀l:List UInt8,l.length<=100 ->(strOf l).size<=100:=fun l h=>by rw[Jab];exact h
 have f:wlM++([gen].flatMap (le 8)++[number].flatMap (le 4)++[place,of,n].flatMap (le 2)++zeros (28 - ([gen].flatMap (le 8)++[number].flatMap (le 4)++[place,of,n].flatMap (le 2)).length))=wlHd gen number place of n:=by simp[wlHd]
 have b:=q ([gen].flatMap (le 8)++[number].flatMap (le 4)++[place,of,n].flatMap (le 2)++zeros (28 - ([gen].flatMap (le 8)++[number].flatMap (le 4)++[place,of,n].flatMap (le 2)).length)) (by simp);generalize [gen].flatMap (le 8)++[number].flatMap (le 4)++[place,of,n].flatMap (le 2)++zeros (28 - ([gen].flatMap (le 8)++[number].flatMap (le 4)++[place,of,n].flatMap (le 2)).length)=X at*;have g:=zI (show(⟨#[87,76,79,71]⟩:ByteArray)++strOf X=strOf (wlHd gen number place of n) from by rw[<- f];apply Ja7;simp[strOf,wlM]);have c:=zI (s.out.trans (r.out.below.mono s.out.size));clear f q;go_wp2_with fail
 rw[g.out];go_ret;exact⟨rfl,c.out⟩
theorem J73(gen number place of:Nat)(l:List UInt8)(w:World)(hl:l.length<=224)(h:J9m gen number place of l.length):
  Cs 321 #[lbV gen number place of l.length,strOf l] w (RB w (strOf (wlBk gen number place of l))):=by
 obtain⟨n,o⟩:=exE l.length;rw[<- o] at hl h ⊢;have x:=(qaa w.heap.size w).alloc (qab _) (.cells #[.int .u64 (gen:Int),(number:Int),(place:Int),(of:Int),(n:Int)] 423);have u:=Bx.new w 423 #[.int .u64 (gen:Int),(number:Int),(place:Int),(of:Int),(n:Int)];obtain⟨w1,t⟩:=exE (w.alloc (.cells #[.int .u64 (gen:Int),(number:Int),(place:Int),(of:Int),(n:Int)] 423));rw[<- t] at x u;have k:=zI t;have j:=zI u;have y:=zI x;have V:=zI h;have s:(strOf l).size=n:=by rw[Jab,o]
 have r:IntKind.i64.wrap (224 - (n:Int))=((224 - n:Nat):Int):=by rw[qbd _ (by omega)];omega
 obtain⟨m,i⟩:=exE (224 - n);rw[<- i] at r;have W:=zI i;have U:=zI o;have g:=zI (LayW.fill0 w1 m (by omega));have f:=zI s;obtain⟨S,d⟩:=exE (strOf l);rw[<- d] at s ⊢;have T:=zI d;have R:n<=224:=hl;clear t x u h i o d f;go_enter Tryz.func321,Tryz.ntmps321;go_upto_region 1 with fail
 rw[<- k.out];go_wp2_with fail
 refine g.out.mono ?_;rintro e w3 ⟨rfl,hl⟩;have q:=zI hl;have z:=hl.bx j.out;have s0:=z.at_ 0 (v:= .int .u64 (gen:Int)) rfl;have s1:=z.at_ 1 (v:= (number:Int)) rfl;have s2:=z.at_ 2 (v:= (place:Int)) rfl;have s3:=z.at_ 3 (v:= (of:Int)) rfl;have s4:=z.at_ 4 (v:= (n:Int)) rfl;clear hl z;go_wp2_with fail
 refine q.out.done.mono ?_;rintro e w4 ⟨rfl,P⟩;subst P;have c:=zI (J4b gen number place of n w3 V.out);go_wp2_with fail
 refine c.out.mono ?_;rintro e w5 ⟨rfl,p⟩;have b:=zI ((y.out.trans (q.out.below.mono y.out.size)).trans (p.mono (y.out.trans (q.out.below.mono y.out.size)).size));have a:(strOf (wlHd gen number place of n)).size=32:=by rw[Jab,Jjk]
 have O:(strOf (zeros m)).size=m:=by rw[Jab,Jcj]
 have Y:=zI (show strOf (wlHd gen number place of n)++S++strOf (zeros m)=strOf (wlBk gen number place of l) from by
  rw[T.out,W.out,U.out];apply Ja7;simp[strOf,wlBk])
 have N:(strOf (wlHd gen number place of n)++S).size=32+n:=by rw[ByteArray.size_append,a,s]
 generalize strOf (wlHd gen number place of n)=H at*;generalize strOf (zeros m)=Z at*;have M:m<=224:=by have:=W.out;omega
 clear p s0 s1 s2 s3 s4;go_wp2_with fail
 rw[Y.out];go_ret;exact⟨rfl,b.out⟩
theorem Jwf(n:Nat)(w:World)(h:n<=1000000):Cs 320 #[(n:Int)] w (RS w (wlN n:Int)):=by
 have y:decide ((n:Int)<0)=false:=qae (by omega);by_cases z:n=0
 · subst z
   go_enter Tryz.func320,Tryz.ntmps320;go_wp2;go_ret;exact⟨rfl,rfl⟩
 · have v:((n:Int)==0)=false:=by rw[qaw];omega
   have x:=zI (show((n:Int) - 1) / 224+1=(wlN n:Int) from by unfold wlN;rw[qav z];omega);go_enter Tryz.func320,Tryz.ntmps320;go_wp2;go_ret;exact⟨by rw[<- x.out];rfl,rfl⟩
theorem Jjl(l:List UInt8)(p:Nat):(wlPt l p).length<=224:=by unfold wlPt;rw[qap];omega
theorem Jdy(gen number:Nat)(l:List UInt8):(wlL gen number l).length=wlN l.length:=by simp[wlL]
def wlT (gen number:Nat) (l:List UInt8) (q:Nat):List Value:=(List.range q).map fun p=>Value.string (strOf (wlBk gen number p (wlN l.length) (wlPt l p)))
theorem J4c(gen number:Nat)(l:List UInt8)(q:Nat):wlT gen number l (q+1)=wlT gen number l q++[.string (strOf (wlBk gen number q (wlN l.length) (wlPt l q)))]:=by
 unfold wlT;rw[qb9,qbf];rfl
theorem J74(gen number:Nat)(l:List UInt8):wlT gen number l (wlN l.length)=(wlL gen number l).map Value.string:=by
 unfold wlT wlL;rw[qch];rfl
theorem J4d(l:List UInt8)(q:Nat):(strOf l).extract (224*q) (min (224*(q+1)) l.length)=strOf (wlPt l q):=by
 apply ByteArray.ext;rw[qco];unfold strOf wlPt;apply Array.toList_inj.1;rw[Array.toList_extract];simp only[List.extract_eq_take_drop];by_cases h:224*(q+1)<=l.length
 · rw[Nat.min_eq_left h,show 224*(q+1) - 224*q=224 from by omega]
 · rw[Nat.min_eq_right (by omega)]
   rw[qao (by rw[qa4];omega),qao (by rw[qa4];omega)]
theorem J0e(gen number:Nat)(l:List UInt8)(w:World)(hl:l.length<=3600)(hg:gen<18446744073709551616)(hn:number<65536):
  Calls Tryz.prog 261 #[.int .u64 (gen:Int),.int .i64 (number:Int),.string (strOf l)] w fun e w'=>∃v,e= .returned v/\w'.ownsRow w.heap.size 9 1 v (wlN l.length) ((wlL gen number l).map Value.string)/\Below w.heap.size w w':=by
 obtain⟨n,y⟩:=exE l.length;have c:wlN l.length<=17/\1<=wlN l.length/\224*(wlN l.length - 1)<=n:=by unfold wlN;split<;>omega
 have o:=zI (Jwf n w (by omega));have x:=zI (fun q=>J4d l q);have m:=zI (fun q W (H:q<17)=>J73 gen number q (wlN l.length) (wlPt l q) W (Jjl l q) ⟨hg,hn,by omega,by omega,by have:=Jjl l q;omega⟩);have k:=zI (J4c gen number l);have i:=zI (J74 gen number l);rw[<- y] at x;obtain⟨N,t⟩:∃N,N=wlN l.length:=⟨_,rfl⟩;rw[<- t] at c m k i ⊢;rw[y,<- t,<- y] at o;have V:(strOf l).size=n:=by rw[Jab,y]
 obtain⟨S,K⟩:=exE (strOf l);rw[<- K] at V x ⊢;have J:n<=3600:=by omega
 have G:=zI c;have F:=zI y;clear hl hg hn y t K c;go_enter Tryz.func261,Tryz.ntmps261;go_wp2_with fail
 refine o.out.mono ?_;rintro e w1 ⟨rfl,E⟩;subst E;go_wp2_with fail
 go_loopw [7,15] (fun v j wr=>∃q:Nat,q<=N/\j= .int .i64 (q:Int)/\wr.ownsRow w.heap.size 9 1 v q (wlT gen number l q)/\Below w.heap.size w wr) (fun _ j _=>N - (intOf j).toNat)
 case atStart=>exact⟨0,qaq _,rfl,qax _ _ _ _,qaa _ _⟩
 case round=>
  obtain⟨q,H,rfl,z,a⟩:=hrel;have c:=G.out;by_cases D:q<N
  · have C:=zI (k.out q)
    have U:=zI z;have Y:=zI a;have I:=zI (x.out q);have B:=zI (show q+1<=1000000 from by omega);have A:=zI (Jjl l q);obtain⟨b,h⟩:=exE (min (224*(q+1)) n);have hJ:min (((q:Int)+1)*224) (n:Int)=(b:Int):=(by omega);have Ha:q*224<=b/\b<=n:=(by omega);rw[<- h,Nat.mul_comm 224 q] at I
    have g:b - q*224=(wlPt l q).length:=by
     unfold wlPt;rw[qap,qa4,<- F.out];omega
    have T:=zI g;have HP:=zI (fun W=>m.out q W (by omega));have Hb:min b n=b:=(by omega);clear z a h g;go_wp2_with fail
    rw[I.out,T.out];refine(HP.out _).mono ?_;rintro e w2 ⟨rfl,s⟩;generalize strOf (wlBk gen number q N (wlPt l q))=Z at*;have r:=s.alloc s.size (.cells #[Z] 9);have R:=zI (Sl.new w2 9 w2.heap.size [Z] #[Z] rfl rfl);have P:=zI (show ∀u∈([Z]:List Value),u.oneCell'=true from by intro u hu;rw[qaz.1 hu];rfl);have f:=zI (Jah U.out r);have p:=zI (Y.out.trans (r.mono Y.out.size));clear s r;go_wp2_with (at_builtin;refine Jj6 rfl _ _ rfl f.out rfl (some ⟨w2.heap.size,0,none⟩) 1 1 [Z] rfl rfl R.out P.out B.out p.out.size ?_;intro A' c' w5 d O)
    have M:=Jbw f.out O p.out p.out.size;rw[<- C.out] at d;go_roundw
    case rel=>exact⟨q+1,by omega,by go_num,d,M⟩
    case measure=>simp[intOf];omega
  · have L:q=N:=by omega
    subst L;have U:=zI z;have Y:=zI a;clear z a;go_wp2_with fail
    go_ret;exact⟨_,rfl,by rw[<- i.out];exact U.out,Y.out⟩
def Rch.err (r:Rch) (s:Smp):Int:=if Jaf s.nm.toList=false\/s.tm<0 then 1 else if r.now<s.tm then 25 else if s.tm<r.from_ 0 then 24 else 0
theorem Rch.err_zero{r:Rch}{s:Smp}(hs:s.Ok)(h:r.err s=0):r.Gets s:=by
 unfold Rch.err at h;split at h
 · omega
 · next h1=>
   split at h
   · omega
   · split at h
     · omega
     · rw[not_or] at h1
       exact⟨hs,by cases e:Jaf s.nm.toList<;>simp_all,by omega,by omega⟩
theorem J0f(A:Option Addr)(n c:Nat)(B:Option Addr)(m d:Nat)(r:Rch)(s:Smp)(w:World)(h:Jef w A n B m r)(hn:n<=1000000)(h1:1<=n)(hs:s.Ok):
  Cs 122 #[rchV r.now r.nm A n c B m d,.agg #[s.nm,(s.tm:Int),(s.vl:Int)]] w (RB w (r.err s:Int)):=by
 have t:=zI (fun (W:World) (g:Nat) (hg:W.cell? ⟨g,0,none⟩=some (.string s.nm))=>Jbp (some ⟨g,0,none⟩) 1 1 [s.nm] W (by decide) rfl (by simpa using hs.nm) (fun _=>⟨g,0,rfl,one_cell hg⟩));rw[show([s.nm].all fun s=>Jaf s.toList)=Jaf s.nm.toList from by simp] at t;have q:=zI (show Jaf s.nm.toList=false\/s.tm<0 ->r.err s=1 from fun h=>by unfold Rch.err;rw[qa2 h]);have Z:=zI (show ¬ (Jaf s.nm.toList=false\/s.tm<0) ->r.now<s.tm ->r.err s=25 from fun h h2=>by unfold Rch.err;rw[qav h,qa2 h2]);have Y:=zI (show ¬ (Jaf s.nm.toList=false\/s.tm<0) -> ¬ r.now<s.tm ->s.tm<r.from_ 0 ->r.err s=24 from fun h h2 h3=>by unfold Rch.err;rw[qav h,qav h2,qa2 h3]);have V:=zI (show ¬ (Jaf s.nm.toList=false\/s.tm<0) -> ¬ r.now<s.tm -> ¬ s.tm<r.from_ 0 ->r.err s=0 from fun h h2 h3=>by unfold Rch.err;rw[qav h,qav h2,qav h3]);generalize Jaf s.nm.toList=vv at*;obtain⟨w1,y⟩:=exE ((w.alloc (.cells #[(r.now:Int),r.nm,.slice A n c,.slice B m d] 161)).alloc (.cells #[s.nm,(s.tm:Int),(s.vl:Int)] 85));have x:=(qaa w.heap.size w).alloc (qab _) (.cells #[(r.now:Int),r.nm,.slice A n c,.slice B m d] 161)
 have p:=zI (show TkS w w1 r A n c B m d s from by
  rw[y];refine⟨(Bx.new w _ _).alloc _,?_,x.alloc x.size _⟩;have:=Bx.new (w.alloc (.cells #[(r.now:Int),r.nm,.slice A n c,.slice B m d] 161)) 85 #[s.nm,(s.tm:Int),(s.vl:Int)]
  rwa [show(w.alloc (.cells #[(r.now:Int),r.nm,.slice A n c,.slice B m d] 161)).heap.size=w.heap.size+1 from by simp] at this)
 have U:=zI y;have o:=zI (fun W=>Jim r.now r.nm A n c B m d 0 W);rw[show isB n 0=true from qan (by omega)] at o;have T:=zI (fun W (hW:Below w.heap.size w W)=>Jg1 A n c B m d r 0 W (h.below hW) hn h1);clear y x h hs;obtain⟨a0,a1,a2,a3,b0,b1⟩:=p.out.cells;go_enter Tryz.func122,Tryz.ntmps122;go_upto_region 1 with fail
 rw[<- U.out];go_wp2_with fail
 refine(t.out _ _ (by simp[go_sem])).mono ?_;rintro e w2 ⟨rfl,S⟩;have v:=p.out.next (show Below w1.heap.size w1 w2 from by rw[<- S];exact(qaa _ _).alloc (qab _) _);have u:=zI v;clear S a0 a1 a2 a3 b0 b1;obtain⟨a0,a1,a2,a3,b0,b1⟩:=v.cells;cases vv with
 | false=>
   go_wp2_with fail
   go_ret;exact⟨by rw[q.out (by simp)];rfl,u.out.bel⟩
 | true=>
 by_cases l:s.tm<0
 · have d1:decide (s.tm<0)=true:=qan l
   go_wp2_with fail
   go_ret;exact⟨by rw[q.out (by first | omega | (simp;omega))];rfl,u.out.bel⟩
 have d1:decide (s.tm<0)=false:=qae l;by_cases z:r.now<s.tm
 · have d2:decide (r.now<s.tm)=true:=qan z
   go_wp2_with fail
   go_ret;exact⟨by rw[Z.out (by first | omega | (simp;omega)) (by first | omega | (simp;omega))];rfl,u.out.bel⟩
 have d2:decide (r.now<s.tm)=false:=qae z;go_wp2_with fail
 have k:=zI (v.next (qaa _ _).drew)
 go_region_held3 (fun w'=>(w'.cell? ⟨w.heap.size,0,none⟩=some (.int .i64 r.now)/\w'.cell? ⟨w.heap.size,1,none⟩=some (.string r.nm)/\w'.cell? ⟨w.heap.size,2,none⟩=some (.slice A n c)/\w'.cell? ⟨w.heap.size,3,none⟩=some (.slice B m d)/\w'.cell? ⟨w.heap.size+1,0,none⟩=some (.string s.nm)/\w'.cell? ⟨w.heap.size+1,1,none⟩=some (.int .i64 s.tm))/\TkS w w' r A n c B m d s)
  (first
    | exact⟨k.out.cells,k.out⟩
    | (go_split_ands;exact⟨(TkS.next (by assumption) j).cells,TkS.next (by assumption) j⟩)
    | (go_split_ands;exact⟨(TkS.next (by assumption) i).cells,TkS.next (by assumption) i⟩))
  (first
    | (go_at_call 183;refine(o.out _).mono ?_;rintro e wq ⟨rfl,j⟩)
    | (go_at_call 108;go_split_ands;refine(T.out _ (TkS.bel (by assumption))).mono ?_;rintro e wp ⟨rfl,i⟩))
 have f:TkS w wp r A n c B m d s:=by go_split_ands;assumption
 have b:=zI f.bel;clear f;by_cases a:s.tm<r.from_ 0
 · have d3:decide (s.tm<r.from_ 0)=true:=qan a
   go_wp2_with fail
   go_ret;exact⟨by rw[Y.out (by first | omega | (simp;omega)) (by first | omega | (simp;omega)) (by first | omega | (simp;omega))];rfl,b.out⟩
 have d3:decide (s.tm<r.from_ 0)=false:=qae a;go_wp2_with fail
 go_ret;exact⟨by rw[V.out (by first | omega | (simp;omega)) (by first | omega | (simp;omega)) (by first | omega | (simp;omega))];rfl,b.out⟩
def Rch.errs (r:Rch):List Smp ->Int
 | []=>0
 | s::l=>if r.err s=0 then r.errs l else r.err s
theorem Rch.errs_all{r:Rch}:∀ {l:List Smp},(∀s∈l,r.err s=0) ->r.errs l=0
 | [],_=>rfl
 | s::l,h=>by
   simp only[Rch.errs];rw[qa2 (h s (List.mem_cons_self ..))];exact Rch.errs_all fun x hx=>h x (qc6 _ hx)
theorem Rch.errs_at{r:Rch}:∀ {l:List Smp} {k:Nat} (hk:k<l.length),(∀s∈l.take k,r.err s=0) ->r.err l[k]≠0 ->r.errs l=r.err l[k]
 | s::l,0,hk,_,h=>by
   simp only[Rch.errs];exact qav h
 | s::l,k+1,hk,ha,h=>by
   simp only[Rch.errs];rw[List.take_succ_cons] at ha;rw[qa2 (ha s (List.mem_cons_self ..))];exact Rch.errs_at (l:=l) (k:=k) (by simpa using hk) (fun x hx=>ha x (qc6 _ hx)) h
def Rch.putErr (r:Rch) (l:List Smp):Int:=if l.length=0 then 1 else if 8<l.length then 2 else r.errs l
theorem Rch.errs_gets{r:Rch}:∀ {l:List Smp},(∀s∈l,s.Ok) ->r.errs l=0 ->∀s∈l,r.Gets s
 | [],_,_=>fun s hs=>by cases hs
 | a ::l,hs,h=>by
   simp only[Rch.errs] at h;split at h
   · next ha=>
     intro s z;rcases qa6.1 z with e | e
     · rw[e];exact Rch.err_zero (hs a (List.mem_cons_self ..)) ha
     · exact Rch.errs_gets (fun x z=>hs x (qc6 _ z)) h s e
   · next ha=>exact absurd h ha
theorem Rch.putErr_zero{r:Rch}{l:List Smp}(hs:∀s∈l,s.Ok)(h:r.putErr l=0):1<=l.length/\l.length<=8/\∀s∈l,r.Gets s:=by
 unfold Rch.putErr at h;split at h
 · omega
 · split at h
   · omega
   · exact⟨by omega,by omega,Rch.errs_gets hs h⟩
theorem J4e{F:Nat ->Prop}{g:Nat}{t:Tv}{A:Option Addr}{n c:Nat}{l:List Smp}(w:World)(h:Jae w F g t)(h1:1<=t.tabs.length)(hl:Smps w A n l)(hE:t.r.putErr l≠0):
  Cs 58 #[g,.slice A n c] w (RB w (t.r.putErr l:Int)):=by
 have f:=zI (Jgl w h h1);have HT:=zI h;have HL:=zI hl;have z:=zI hl.len;have h3:=h.few;by_cases O:n=0
 · subst O
   have Y:=zI (show t.r.putErr l=1 from by unfold Rch.putErr;rw[qa2 z.out]);clear h hl hE;go_enter Tryz.func58,Tryz.ntmps58;go_wp2_with fail
   refine f.out.mono ?_;rintro e w1 ⟨rfl,V⟩;subst V;go_wp2_with fail
   go_ret;exact⟨by rw[Y.out];rfl,qaa _ _⟩
 have hJ:1<=n:=by omega
 have d1:((n:Int)==0)=false:=by rw[qaw];omega
 by_cases U:8<n
 · have d2:decide ((8:Int)<(n:Int))=true:=qan (by omega)
   have d2':decide (8<n)=true:=qan U;have Y:=zI (show t.r.putErr l=2 from by unfold Rch.putErr;rw[qav (by rw[z.out];omega),qa2 (by rw[z.out];exact U)]);clear h hl hE;go_enter Tryz.func58,Tryz.ntmps58;go_wp2_with fail
   refine f.out.mono ?_;rintro e w1 ⟨rfl,V⟩;subst V;go_wp2_with fail
   go_ret;exact⟨by rw[Y.out];rfl,qaa _ _⟩
 have Ha:n<=8:=by omega
 have d2:decide ((8:Int)<(n:Int))=false:=qae (by omega);have Y:=zI (show t.r.putErr l=t.r.errs l from by unfold Rch.putErr;rw[qav (by rw[z.out];omega),qav (by rw[z.out];omega)]);have HE:=zI (show t.r.errs l≠0 from by rw[<- Y.out];exact hE);have N:=zI (show ∀W (x:Smp),x∈l ->∀A2 c2 B2 m2 d2,Jef W A2 t.tabs.length B2 m2 t.r ->Cs 122 #[rchV t.r.now t.r.nm A2 t.tabs.length c2 B2 m2 d2,.agg #[x.nm,(x.tm:Int),(x.vl:Int)]] W (RB W (t.r.err x:Int)) from fun W x m A2 c2 B2 m2 d2 hR=>J0f A2 _ c2 B2 m2 d2 t.r x W hR (by omega) h1 (hl.ok x m));clear h hl hE;go_enter Tryz.func58,Tryz.ntmps58;go_wp2_with fail
 refine f.out.mono ?_;rintro e w1 ⟨rfl,V⟩;subst V;go_wp2_with fail
 go_loopw [28] (fun j wr=>∃k:Nat,k<=n/\j= .int .i64 (k:Int)/\(∀s∈l.take k,t.r.err s=0)/\Below w.heap.size w wr) (fun j _=>n - (intOf j).toNat)
 case atStart=>exact⟨0,qaq _,rfl,(fun s hs=>by cases hs),qaa _ _⟩
 case round=>
  obtain⟨k,hk,rfl,i,P⟩:=hrel;have y:=zI i;clear i;by_cases M:k<n
  · have K:k<l.length:=by rw[z.out];exact M
    obtain⟨b,off,rfl,Hb,R⟩:=(HL.out.below P).get K;obtain⟨A2,c2,B2,m2,d2,L2,cl2,ga2,gm2,L,T,_⟩:=(HT.out.below P).tabs;obtain⟨x,m⟩:=exE (l[k]);have J:=zI (fun W (hW:Below wr.heap.size wr W)=>N.out W x (by rw[m];exact qal K) A2 c2 B2 m2 d2 (T.below hW))
    have I:=zI (show t.r.err x=0 ->∀s∈l.take (k+1),t.r.err s=0 from fun h0 s hs=>by
     rw[qak K] at hs;rcases qbc.1 hs with e | e
     · exact y.out s e
     · rw[qaz.1 e,<- m];exact h0)
    have H:=zI (show t.r.err x≠0 ->t.r.putErr l=t.r.err x from fun h0=>by rw[Y.out,m,Rch.errs_at K y.out (by rw[<- m];exact h0)]);rw[<- m] at R;generalize t.r.err x=er at*;have d:=(qaa wr.heap.size wr).alloc (qab _) (.cells #[x.nm,(x.tm:Int),(x.vl:Int)] 85);obtain⟨w1,a⟩:=exE (wr.alloc (.cells #[x.nm,(x.tm:Int),(x.vl:Int)] 85));have Z:=Bx.new wr 85 #[x.nm,(x.tm:Int),(x.vl:Int)];rw[<- a] at d Z;have G:=zI (show PuS wr w1 x from⟨Z,d⟩);have v:=zI (G.out.next (qaa _ _).drew);have E:=zI a;have q:=zI L;have p:=zI (L.below v.out.bel);have HB:=zI P;obtain⟨r0,r1,r2⟩:=R;clear m d Z a L T P;go_upto_region 8 with fail
    rw[<- E.out]
    go_region_held3 (fun w'=>w'.cell? ⟨g,0,none⟩=some (.int .i64 t.r.now)/\w'.cell? ⟨g,1,none⟩=some (.string t.r.nm)/\w'.cell? ⟨g,2,none⟩=some (.slice A2 t.tabs.length c2)/\w'.cell? ⟨g,3,none⟩=some (.slice B2 m2 d2)/\w'.cell? ⟨wr.heap.size,0,none⟩=some (.string x.nm)/\w'.cell? ⟨wr.heap.size,1,none⟩=some (.int .i64 x.tm)/\w'.cell? ⟨wr.heap.size,2,none⟩=some (.int .i64 x.vl)/\PuS wr w' x)
     (first
       | exact⟨p.out.at_ 0 rfl,p.out.at_ 1 rfl,p.out.at_ 2 rfl,p.out.at_ 3 rfl,v.out.box.at_ 0 rfl,v.out.box.at_ 1 rfl,v.out.box.at_ 2 rfl,v.out⟩
       | (go_split_ands
          have u:=PuS.next (by assumption) D;exact⟨(q.out.below u.bel).at_ 0 rfl,(q.out.below u.bel).at_ 1 rfl,(q.out.below u.bel).at_ 2 rfl,(q.out.below u.bel).at_ 3 rfl,u.box.at_ 0 rfl,u.box.at_ 1 rfl,u.box.at_ 2 rfl,u⟩))
     ((go_at_call 122;go_split_ands;refine(J.out _ (PuS.bel (by assumption))).mono ?_;rintro e w2 ⟨rfl,D⟩))
    have u:PuS wr w2 x:=by go_split_ands;assumption
    have S:=zI (HB.out.trans (u.bel.mono HB.out.size));clear u r0 r1 r2;by_cases o:er=0
    · have C:=zI (I.out o)
      subst o;go_wp2_with fail
      go_roundw
      case rel=>exact⟨k+1,by omega,by go_num,C.out,S.out⟩
      case measure=>simp[intOf];omega
    · have B:=zI (H.out o)
      have d4:(er==0)=false:=by rw[qaw];exact o
      go_wp2_with fail
      go_ret;exact⟨by rw[B.out];rfl,S.out⟩
  · exact absurd (Rch.errs_all fun s hs=>y.out s (by rw[qao (by rw[z.out];omega)];exact hs)) HE.out
def smB (s:Smp):List UInt8:=nmB s.nm.toList++(le 8 (u64 s.tm)++le 8 (u64 s.vl))
theorem Jof{s:Smp}(h:s.nm.toList.length<=15):(smB s).length=32:=by simp[smB,Jfz h]
structure Smp.Fine (s:Smp):Prop where
 ok:s.Ok
 nm:Jaf s.nm.toList=true
 len:s.nm.toList.length<=15
 tm:0<=s.tm/\s.tm<=1099511627776
def smsB (l:List Smp):List UInt8:=l.flatMap smB
theorem Jcw:∀ {l:List Smp},(∀s∈l,s.nm.toList.length<=15) ->(smsB l).length=32*l.length
 | [],_=>rfl
 | a::r,h=>by
   have y:=Jof (h a (by simp));have z:=Jcw (l:=r) (fun x hx=>h x (by simp[hx]));unfold smsB at z ⊢;rw[qas,qad,y,z,qa3];omega
theorem J0g(l:List Smp)(s:Smp):smsB (l++[s])=smsB l++smB s:=by simp[smsB]
structure Ov where
 kind:Nat
 n:Int
 l:List Smp
structure Ov.Ok (o:Ov):Prop where
 fine:∀s∈o.l,s.Fine
 kind:o.kind=1/\o.n=0/\1<=o.l.length/\o.l.length<=8\/o.kind=2/\0<=o.n/\o.n<=1099511627776/\o.l=[]
def opB (o:Ov):List UInt8:=le 1 o.kind++(le 1 o.l.length++le 8 (u64 o.n))++smsB o.l
theorem Jsq{o:Ov}(h:o.Ok):(opB o).length=10+32*o.l.length:=by
 unfold opB;rw[qad,Jcw (fun s hs=>(h.fine s hs).len)]
 simp
theorem Jog{o:Ov}(h:o.Ok):(opB o).length<=266:=by
 rw[Jsq h];rcases h.kind with h | h
 · omega
 · rw[h.2.2.2];simp
theorem Jqv(s:Smp)(w:World)(h:s.Fine):Cs 230 #[.agg #[s.nm,(s.tm:Int),(s.vl:Int)]] w (RB w (.tuple #[(strOf (smB s)),(0:Int)])):=by
 have t:=zI (fun (W:World) (g:Nat) (hg:W.cell? ⟨g,0,none⟩=some (.string s.nm))=>Jbp (some ⟨g,0,none⟩) 1 1 [s.nm] W (by decide) rfl (by simpa using h.ok.nm) (fun _=>⟨g,0,rfl,one_cell hg⟩));rw[show([s.nm].all fun s=>Jaf s.toList)=true from by simp[h.nm]] at t;have n:=zI (Bx.new w 85 #[s.nm,(s.tm:Int),(s.vl:Int)]);have r:=zI ((qaa w.heap.size w).alloc (qab _) (.cells #[s.nm,(s.tm:Int),(s.vl:Int)] 85));have m:=zI (fun W=>Jqm s.tm W h.tm);have l:=zI h.len;have k:=zI (show s.nm.size<=15 from by rw[<- Jac];exact h.len);clear h;go_enter Tryz.func230,Tryz.ntmps230;go_wp2_with fail
 refine(t.out _ _ (by simp[go_sem])).mono ?_;rintro e w2 ⟨rfl,u⟩
 have x:Below (w.alloc (.cells #[s.nm,(s.tm:Int),(s.vl:Int)] 85)).heap.size (w.alloc (.cells #[s.nm,(s.tm:Int),(s.vl:Int)] 85)) w2:=by
  rw[<- u]
  repeat (first | exact qaa _ _ | refine Below.drew ?_ | refine qdb ?_ (by simp;try omega) _)
 have z:=zI (n.out.below x);have q:=zI (r.out.trans (x.mono r.out.size));have s0:=z.out.at_ 0 (v:= s.nm) rfl;have s1:=z.out.at_ 1 (v:= (s.tm:Int)) rfl;have j:=z.out.lt;clear u x;go_wp2_with fail
 refine(m.out _).mono ?_;rintro e w3 ⟨rfl,u⟩;subst u;go_wp2_with fail
 refine(LayW.names0 w2 [s.nm] (by simpa using k.out) 1 1 #[s.nm] rfl rfl (by omega)).mono ?_;rintro e w4 ⟨rfl,y⟩;have i:=zI (show LayW w2 w4 w2.heap.size (nmB s.nm.toList) from by simpa using y);have t1:=(y.bx z.out).at_ 1 (v:= (s.tm:Int)) rfl;have t2:=(y.bx z.out).at_ 2 (v:= (s.vl:Int)) rfl;clear y s0 s1 j;have f:=zI (Jfz (s:=s.nm.toList) l.out);go_wp2_with fail
 refine(i.out.ints [s.tm,s.vl] 2 2 #[(s.tm:Int),(s.vl:Int)] rfl rfl (by simp[f.out])).mono ?_;rintro e w5 ⟨rfl,p⟩;have o:=zI (show LayW w2 w5 w2.heap.size (smB s) from by simpa[smB] using p);clear p t1 t2;have d:=zI o.out.done;go_wp2_with fail
 refine d.out.mono ?_;rintro e w6 ⟨rfl,u⟩;subst u;have c:=zI (q.out.trans (o.out.below.mono q.out.size));go_wp2_with fail
 go_ret2;exact⟨rfl,c.out⟩
theorem Jmq(A:Option Addr)(n c:Nat)(l:List Smp)(w:World)(h:Smps w A n l)(hf:∀s∈l,s.Fine)(hn:n<=10000):
  Cs 174 #[.slice A n c] w (RB w (.tuple #[(strOf (smsB l)),(0:Int)])):=by
 have g:=zI h.len;have Z:=zI (fun r W (hr:r∈l)=>Jqv r W (hf r hr));have Y:=zI h;have f:=zI hf;clear h hf;go_enter Tryz.func174,Tryz.ntmps174;go_wp2_with fail
 go_loopw [4,11] (fun s i wr=>∃k:Nat,k<=n/\i= .int .i64 (k:Int)/\s= .string (strOf (smsB (l.take k)))/\Below w.heap.size w wr) (fun _ i _=>n - (intOf i).toNat)
 case atStart=>exact⟨0,qaq _,rfl,rfl,qaa _ _⟩
 case round=>
  obtain⟨k,P,rfl,rfl,y⟩:=hrel;by_cases q:k<n
  · have K:k<l.length:=by rw[g.out];exact q
    have d:=zI (show strOf (smsB (l.take k))++strOf (smB l[k])=strOf (smsB (l.take (k+1))) from by
     rw[qak K,J0g,Jc3])
    have V:(strOf (smsB (l.take k))).size<=1000000:=by
     rw[Jab,Jcw (fun r hr=>(f.out r (qbr hr)).len),qap];omega
    have U:(strOf (smB l[k])).size<=1000:=by rw[Jab,Jof (f.out _ (qal K)).len];omega
    have p:=zI (fun W=>Z.out l[k] W (qal K));obtain⟨b,off,rfl,T,R⟩:=(Y.out.below y).get K;obtain⟨s2,z⟩:=exE (strOf (smsB (l.take (k+1))));rw[<- z] at d;have o:=zI z;clear z;generalize strOf (smsB (l.take k))=s1 at*;generalize l[k]'K=x at*;obtain⟨r0,r1,r2⟩:=R;have v:=(qaa wr.heap.size wr).alloc (qab _) (.cells #[x.nm,(x.tm:Int),(x.vl:Int)] 85);have u:=zI (y.trans (v.mono y.size));clear v y;go_wp2_with fail
    refine(p.out _).mono ?_;rintro e w2 ⟨rfl,t⟩;have m:=zI (u.out.trans (t.mono u.out.size));clear t r0 r1 r2;go_wp2_with fail
    go_roundw
    case rel=>exact⟨k+1,by omega,by go_num,by rw[d.out,o.out],m.out⟩
    case measure=>simp[intOf];omega
  · have j:n=k:=by omega
    have a:=zI (show l.take k=l from qao (by rw[g.out];omega));rw[a.out];have S:=zI y;clear y j a;go_wp2_with fail
    go_ret2;exact⟨rfl,S.out⟩
abbrev opV (o:Ov) (A:Option Addr) (n c:Nat):Value:= .agg #[(o.kind:Int),(o.n:Int),.slice A n c]
theorem Jmr(o:Ov)(A:Option Addr)(n c:Nat)(w:World)(h:o.Ok)(hl:Smps w A n o.l):
  Cs 144 #[opV o A n c] w fun e w'=>e= .returned true/\Below w.heap.size w w':=by
 have u:=(qaa w.heap.size w).alloc (qab _) (.cells #[(o.kind:Int),(o.n:Int),.slice A n c] 115);have s:=zI (Bx.new w 115 #[(o.kind:Int),(o.n:Int),.slice A n c]);have k:n<=8:=by have:=hl.len;rcases h.kind with x | x;omega;rw[x.2.2.2] at this;simp at this;omega
 have m:=zI (Jmq A n c o.l _ (hl.below u) h.fine (by omega));have r:=zI u;have y:=hl.len;have j:=h.kind;obtain⟨kd,nn,l⟩:=o;simp only at*;clear u hl h;rcases j with⟨rfl,rfl,q,i⟩ | ⟨rfl,q,g,rfl⟩
 · have f:1<=n:=by omega
   clear y q i;have d1:decide ((1:Int)<=(n:Int))=true:=qan (by omega);have d2:decide ((n:Int)<=8)=true:=qan (by omega);go_enter Tryz.func144,Tryz.ntmps144;go_wp2_with fail
   refine m.out.mono ?_;rintro e w2 ⟨rfl,z⟩;have x0:=(s.out.below z).at_ 0 (v:= (1:Int)) rfl;have x1:=(s.out.below z).at_ 1 (v:= (0:Int)) rfl;have x2:=(s.out.below z).at_ 2 (v:= .slice A n c) rfl;have t:=zI (r.out.trans (z.mono r.out.size));clear z;go_wp2_with fail
   go_ret;exact⟨rfl,t.out⟩
 · have p:n=0:=by simpa using y.symm
   subst p;have d1:decide ((0:Int)<=nn)=true:=qan q;have d2:decide (nn<=(1099511627776:Int))=true:=qan g;go_enter Tryz.func144,Tryz.ntmps144;go_wp2_with fail
   refine m.out.mono ?_;rintro e w2 ⟨rfl,z⟩;have x0:=(s.out.below z).at_ 0 (v:= (2:Int)) rfl;have x1:=(s.out.below z).at_ 1 (v:= (nn:Int)) rfl;have x2:=(s.out.below z).at_ 2 (v:= .slice A 0 c) rfl;have t:=zI (r.out.trans (z.mono r.out.size));clear z;go_wp2_with fail
   go_ret;exact⟨rfl,t.out⟩
theorem Jms(o:Ov)(A:Option Addr)(n c:Nat)(w:World)(h:o.Ok)(hl:Smps w A n o.l):
  Cs 102 #[opV o A n c] w (RB w (.tuple #[(strOf (opB o)),(0:Int)])):=by
 have q:=(qaa w.heap.size w).alloc (qab _) (.cells #[(o.kind:Int),(o.n:Int),.slice A n c] 115);have U:=Bx.new w 115 #[(o.kind:Int),(o.n:Int),.slice A n c];have T:n<=8:=by have:=hl.len;rcases h.kind with x | x;omega;rw[x.2.2.2] at this;simp at this;omega
 have S:=zI (show o.kind<256/\n<256 from by rcases h.kind with x | x<;>omega)
 have g:=zI (fun W (hW:Below w.heap.size w W)=>Jmr o A n c W h (hl.below hW));have R:=zI (fun W (hW:Below w.heap.size w W)=>Jmq A n c o.l W (hl.below hW) h.fine (by omega));have f:=zI hl.len;have p:=zI (show(strOf (smsB o.l)).size<=300 from by rw[Jab,Jcw (fun s hs=>(h.fine s hs).len),hl.len];omega);have P:=zI U;have d:=zI q;clear q U h hl;go_enter Tryz.func102,Tryz.ntmps102;go_wp2_with fail
 refine(g.out _ d.out).mono ?_;rintro e w2 ⟨rfl,y⟩;have m:=zI (P.out.below y);have u:=zI (d.out.trans (y.mono d.out.size));have x2:=m.out.at_ 2 (v:= .slice A n c) rfl;clear y;go_wp2_with fail
 refine(R.out _ u.out).mono ?_;rintro e w3 ⟨rfl,t⟩;have z:=zI (m.out.below t);have k:=zI (u.out.trans (t.mono u.out.size));clear t x2;have s0:=z.out.at_ 0 (v:= (o.kind:Int)) rfl;have s2:=z.out.at_ 2 (v:= .slice A n c) rfl;have b:=z.out.lt;obtain⟨Z,a⟩:=exE (strOf (smsB o.l));have O:=zI a;rw[<- a] at p ⊢;clear a;have N:=p.out;go_wp2_with fail
 refine(LayW.small0 w3 1 Jmk [o.kind,n] (by have:=S.out;simp;omega) 2 2 #[(o.kind:Int),(n:Int)] rfl rfl (by omega)).mono ?_;rintro e w4 ⟨rfl,r⟩;have Y:=zI (show LayW w3 w4 w3.heap.size (le 1 o.kind++le 1 n) from by simpa using r);have s1:=(r.bx z.out).at_ 1 (v:= (o.n:Int)) rfl;clear r s0 s2 b;go_wp2_with fail
 refine(Y.out.ints [o.n] 1 1 #[(o.n:Int)] rfl rfl (by simp)).mono ?_;rintro e w5 ⟨rfl,j⟩;have i:=zI (show LayW w3 w5 w3.heap.size (le 1 o.kind++(le 1 n++le 8 (u64 o.n))) from by simpa using j);clear j s1;have V:=zI i.out.done;go_wp2_with fail
 refine V.out.mono ?_;rintro e w6 ⟨rfl,M⟩;subst M;have L:=zI (k.out.trans (i.out.below.mono k.out.size));have K:=zI (show strOf (le 1 o.kind++(le 1 n++le 8 (u64 o.n)))++Z=strOf (opB o) from by rw[O.out,Jc3];unfold opB;rw[f.out]);have J:(strOf (le 1 o.kind++(le 1 n++le 8 (u64 o.n)))).size<=100:=by rw[Jab];simp
 generalize strOf (le 1 o.kind++(le 1 n++le 8 (u64 o.n)))=X at*;go_wp2_with fail
 rw[K.out];go_ret2;exact⟨rfl,L.out⟩
def Tv.atN (t:Tv) (now:Int):Tv:=⟨⟨now,t.r.nm,t.r.ts,t.r.fs⟩,t.tabs⟩
def Tv.trimTo (t:Tv):Nat ->Tv
 | 0=>t
 | k+1=>(t.trimTo k).setTab k ((t.tab k).filter fun r=> !decide (r.st<t.r.from_ k))
def Tv.tick (t:Tv) (n:Int):Tv:=(t.atN (t.r.now+n)).trimTo t.tabs.length
theorem Tv.trimTo_r(t:Tv):∀k,(t.trimTo k).r=t.r
 | 0=>rfl
 | k+1=>Tv.trimTo_r t k
theorem Tv.trimTo_len(t:Tv):∀k,(t.trimTo k).tabs.length=t.tabs.length
 | 0=>rfl
 | k+1=>by show((t.trimTo k).setTab k _).tabs.length=_;rw[Tv.setTab_len];exact Tv.trimTo_len t k
theorem Tv.trimTo_tab(t:Tv)(k i:Nat)(h:k<=i):(t.trimTo k).tab i=t.tab i:=by
 induction k with
 | zero=>rfl
 | succ k ih=>
   show((t.trimTo k).setTab k _).tab i=_;rw[Tv.setTab_other (by omega)];exact ih (by omega)
theorem Jae.timed{w:World}{F:Nat ->Prop}{g:Nat}{t:Tv}(h:Jae w F g t)(h1:1<=t.tabs.length)(hfs:t.r.fs.length≠1)(now:Int)(hn: -9223372036854775808<=now/\now<=9223372036854775807):Jae (w.setCell ⟨g,0,none⟩ (now:Int)) F g (t.atN now)/\Chg F w (w.setCell ⟨g,0,none⟩ (now:Int)):=by
 obtain⟨A,c,B,m,d,L,cl,ga,gm,l,y,T,S,f,Z,v⟩:=h.ex;have s:Chg (fun x=>x=g) w (w.setCell ⟨g,0,none⟩ (now:Int)):=Chg.set _ _ _ rfl
 have key:∀ (o:Nat) (u:Value),w.cell? ⟨g,o,none⟩=some u ->(o=0/\u= .int .i64 t.r.now)\/(o=1/\u= .string t.r.nm)\/∃a b c,u= .slice a b c:=by
  intro o u z;rw[l.cell o] at z
  match o with
  | 0=>simp at z;exact .inl ⟨rfl,z.symm⟩
  | 1=>simp at z;exact .inr (.inl ⟨rfl,z.symm⟩)
  | 2=>simp at z;exact .inr (.inr ⟨_,_,_,z.symm⟩)
  | 3=>simp at z;exact .inr (.inr ⟨_,_,_,z.symm⟩)
  | 4=>simp at z;exact .inr (.inr ⟨_,_,_,z.symm⟩)
  | k+5=>simp at z
 have far:∀ {A:Option Addr} {xs:List Value},(∀o,(∀j u,xs[j]? =some u ->w.cell? ⟨g,o+j,none⟩=some u) ->xs=[]) ->Sl w A xs ->Sl (w.setCell ⟨g,0,none⟩ (now:Int)) A xs:=by
  intro A xs Y R;refine⟨fun hx=> ?_⟩;obtain⟨b',o',e,q,n⟩:=R.at_ hx;have W:b'≠g:=fun e=>hx (Y o' (fun j u z=>by rw[<- e];exact n j u z));exact⟨b',o',e,qar q s.size,fun j u z=>(s.cell (p:=⟨b',o'+j,none⟩) q W).trans (n j u z)⟩
 have fA:Sl (w.setCell ⟨g,0,none⟩ (now:Int)) A (t.r.ts.flatMap Ti.cells):=far (fun o hh=>by
  cases hts:t.r.ts with
  | nil=>rfl
  | cons a r=>
    rw[hts] at hh;rcases key _ _ (hh 0 a.nm rfl) with⟨_,e⟩ | ⟨e0,_⟩ | ⟨_,_,_,e⟩
    · cases e
    · rcases key _ _ (hh 1 (a.ev:Int) rfl) with⟨e1,_⟩ | ⟨_,e⟩ | ⟨_,_,_,e⟩
      · omega
      · cases e
      · cases e
    · cases e) y.ts.sl
 have fB:Sl (w.setCell ⟨g,0,none⟩ (now:Int)) B (t.r.fs.map (Value.int .i64)):=far (fun o hh=>by
  match hf:t.r.fs with
  | []=>rfl
  | [a]=>rw[hf] at hfs;exact absurd rfl hfs
  | a ::b::r=>
    rw[hf] at hh;rcases key _ _ (hh 0 (a:Int) rfl) with⟨e0,_⟩ | ⟨_,e⟩ | ⟨_,_,_,e⟩
    · rcases key _ _ (hh 1 (b:Int) rfl) with⟨e1,_⟩ | ⟨_,e⟩ | ⟨_,_,_,e⟩
      · omega
      · cases e
      · cases e
    · cases e
    · cases e) y.fs.sl
 have fL:Sl (w.setCell ⟨g,0,none⟩ (now:Int)) L ((List.range t.tabs.length).map fun i=>ptrV (ga i)):=far (fun o hh=>by
  exfalso
  have P:((List.range t.tabs.length).map fun i=>ptrV (ga i))[0]? =some (ptrV (ga 0)):=by
   rw[qb7,qda (by omega)];rfl
  rcases key _ _ (hh 0 _ P) with⟨_,e⟩ | ⟨_,e⟩ | ⟨_,_,_,e⟩<;>cases e) v.row
 have V:∀i,i<t.tabs.length ->ga i≠g:=fun i hi e=>by
  have:=(v.tab i hi).blk;rw[e,l.blk] at this;simp at this
 have U:∀i,i<t.tabs.length ->gm i≠g:=fun i hi e=>by
  obtain⟨D,⟨es,k,h1,_⟩,_⟩:=(v.tab i hi).map.own;rw[e,l.blk] at h1;cases h1
 refine⟨⟨⟨A,c,B,m,d,L,cl,ga,gm,l.set 0 _,⟨⟨fA,y.ts.len,y.ts.n_le,y.ts.ok⟩,⟨fB,y.fs.len,y.fs.n_le,y.fs.wf⟩,hn⟩,T,S,f,Z,⟨fL,fun i hi=>(v.tab i hi).chg s (V i hi) (U i hi),v.apart,v.ina,v.inl⟩⟩,h.g,h.ins.up s.size,h.few,h.nm⟩,s.sub (fun x e=>by rw[e];exact h.g)⟩
theorem J4f{F:Nat ->Prop}{g:Nat}{t:Tv}(k:Int)(w:World)(h:Jae w F g t)(h1:1<=t.tabs.length)(hk:0<=k/\t.r.now+k<=1099511627776)(hnow:0<=t.r.now/\t.r.now<=1099511627776)(hfs:t.r.fs.length≠1)(hfew:∀i,i<t.tabs.length ->(t.tab i).length<1000000):
  Cs 47 #[g,(k:Int)] w fun e w'=>e= .returned (0:Int)/\Jae w' F g (t.tick k)/\Chg F w w':=by
 have J:=zI (Jgl w h h1);obtain⟨A,c,B,m,d,L,cl,_,_,o,_⟩:=h.tabs;have x0:=o.at_ 0 (v:= (t.r.now:Int)) rfl;have f0:=o.free 0;have b:=h.timed h1 hfs (t.r.now+k) (by omega);have I:=h.few;obtain⟨t1,z⟩:=exE (t.atN (t.r.now+k));rw[<- z] at b;have n:=zI b;have H:=zI (show ∀i,i<t1.tabs.length ->(t1.tab i).length<1000000 from by rw[z];exact hfew);have y:=zI (show t1.tabs.length=t.tabs.length from by rw[z];rfl);have T:=zI (show t.tick k=t1.trimTo t.tabs.length from by rw[z];rfl);generalize t.r.now=now at*;obtain⟨N,hN⟩:=exE t.tabs.length;rw[<- hN] at h1 I y T;obtain⟨k1,k2⟩:=hk;obtain⟨n1,n2⟩:=hnow;have d1:decide (k<0)=false:=qae (by omega);have d2:decide (1099511627776 - now<k)=false:=qae (by omega);obtain⟨w1,Z⟩:=exE (w.setCell ⟨g,0,none⟩ (now+k:Int));rw[<- Z] at n;have G:=zI Z;obtain⟨b0,off0,cl0,_,_,c40,_⟩:=n.out.1.focus 0 (by rw[y.out];omega);rw[y.out] at c40;clear h o b hfs hfew z hN Z;go_enter Tryz.func47,Tryz.ntmps47;go_wp2_with fail
 refine J.out.mono ?_;rintro e w0 ⟨rfl,hw⟩;subst hw;go_upto_region 6 with fail
 rw[<- G.out];clear x0 f0 k1 k2 n1 n2 d1 d2;go_wp2_with fail
 go_loopw [38] (fun j wr=>∃i:Nat,i<=N/\j= .int .i64 (i:Int)/\Jae wr F g (t1.trimTo i)/\Chg F w wr/\wr.cell? ⟨g,4,none⟩=some (.slice (some ⟨b0,off0,none⟩) N cl0)) (fun j _=>N - (intOf j).toNat)
 case atStart=>exact⟨0,qaq _,rfl,n.out.1,n.out.2,c40⟩
 case round=>
  clear c40;obtain⟨i,hi,rfl,U,K,l⟩:=hrel;by_cases S:i<N
  · have u:(t1.trimTo i).tabs.length=N:=by rw[Tv.trimTo_len,y.out]
    have f:=Tv.trimTo_r t1 i;obtain⟨b2,off2,cl2,ga,gm,c42,Hj,R,s,P,wand⟩:=U.focus i (by omega);rw[u] at c42;have E:=l.symm.trans c42;cases E
    obtain⟨A2,c2,B2,m2,d2,L2,cl3,_,_,o,Y,_⟩:=U.tabs;rw[u,f] at o Y;rw[f,Tv.trimTo_tab t1 i i (qab _)] at s;rw[f] at wand;have D:=zI (Jg1 A2 N c2 B2 m2 d2 t1.r i wr Y (by omega) S);have C:=zI (fun W (hW:Below wr.heap.size wr W)=>Jnn (t1.r.from_ i) W (s.below hW) (H.out i (by rw[y.out];exact S)));have hJ:=zI wand;have Ha:=zI (show(t1.trimTo i).setTab i ((t1.tab i).filter fun r=> !decide (r.st<t1.r.from_ i))=t1.trimTo (i+1) from rfl);have V:=zI K;have Hb:=zI (show ∀ (wz:World),wz.heap[g]? =wr.heap[g]? ->wz.cell? ⟨g,4,none⟩=wr.cell? ⟨g,4,none⟩ from fun wz e=>qbi (w:=wr) (a:=⟨g,4,none⟩) e);have Hc:=zI l;have y0:=o.at_ 0 (v:= (t1.r.now:Int)) rfl;have y1:=o.at_ 1 (v:= t1.r.nm) rfl;have y2:=o.at_ 2 (v:= .slice A2 N c2) rfl;have y3:=o.at_ 3 (v:= .slice B2 m2 d2) rfl;generalize t1.r.from_ i=fr at*;clear U K s P wand o Y c42 u f;go_wp2_with fail
    refine D.out.mono ?_;rintro e w2 ⟨rfl,q⟩;have Hd:=zI (C.out w2 q);have He:=zI q;clear q;go_wp2_with fail
    refine Hd.out.mono ?_;rintro e w3 ⟨rfl,O,M⟩;have p:=hJ.out w2 w3 _ He.out M O;rw[Ha.out] at p;have Hf:=zI p.1;have Hg:=zI (V.out.trans p.2.1 (fun x hx=> .inl hx));have Hh:=zI ((Hb.out w3 p.2.2).trans Hc.out);clear O M p y0 y1 y2 y3 R l;go_wp2_with fail
    go_roundw
    case rel=>exact⟨i+1,by omega,by go_num,Hf.out,Hg.out,Hh.out⟩
    case measure=>simp[intOf];omega
  · have Hi:i=N:=by omega
    subst Hi;rw[<- T.out] at U;have HT:=zI U;have V:=zI K;clear U K l;go_wp2_with fail
    go_ret;exact⟨rfl,HT.out,V.out⟩
theorem J0h(p:Value)(w:World):Cs 48 #[.pointer none,p] w (RS w (0:Int)):=by
 go_enter Tryz.func48,Tryz.ntmps48;go_wp2;go_ret;exact⟨rfl,rfl⟩
theorem Jqw{F:Nat ->Prop}{g room:Nat}{t:Tv}(k:Int)(w:World)(h:StAt w F g room t)(h1:1<=t.tabs.length)(hk:0<=k/\t.r.now+k<=1099511627776)(hnow:0<=t.r.now/\t.r.now<=1099511627776)(hfs:t.r.fs.length≠1)(hfew:∀i,i<t.tabs.length ->(t.tab i).length<1000000):
  Cs 15 #[g,(k:Int)] w fun e w'=>e= .returned (0:Int)/\StAt w' (grow F w w') g room (t.tick k)/\Chg F w w':=by
 have n:=zI (Jep w h);have m:=zI h;obtain⟨gt,FT,l,d,s,y⟩:=h.ex;have j:=zI (J4f k w d h1 hk hnow hfs hfew);have a:=zI l;have q:=zI s;have p:=zI y;have s1:=l.at_ 1 (v:= gt) rfl;clear h l d s y h1 hk hnow hfs hfew;go_enter Tryz.func15,Tryz.ntmps15;go_wp2_with fail
 refine n.out.mono ?_;rintro e w0 ⟨rfl,Z⟩;subst Z;go_wp2_with fail
 refine j.out.mono ?_;rintro e w1 ⟨rfl,o,x⟩;have z:=zI (a.out.chg x q.out);have f:=(qaa w1.heap.size w1).drew;have u:=x.then_below f;have c:=zI (show StAt w1.drew (grow F w w1.drew) g room (t.tick k)/\Chg F w w1.drew from⟨⟨⟨gt,FT,z.out.drew,o.below f,q.out,fun b hb=> .inl (p.out b hb)⟩,.inl m.out.g,m.out.ins.grow u.size,m.out.room⟩,u.sub p.out⟩);have z1:=z.out.at_ 1 (v:= gt) rfl;have z2:=z.out.at_ 2 (v:= .pointer none) rfl;have y1:=z.out.drew.at_ 1 (v:= gt) rfl;have y2:=z.out.drew.at_ 2 (v:= .pointer none) rfl;clear o x s1 f u;go_upto_region 6 with fail
 go_region_held3 (fun w'=>w'.cell? ⟨g,1,none⟩=some (.pointer (some ⟨gt,0,none⟩))/\w'.cell? ⟨g,2,none⟩=some (.pointer none))
  (exact⟨y1,y2⟩)
  (first
    | (go_at_call 48
       refine(J0h _ _).mono ?_;rintro e w2 ⟨rfl,rfl⟩))
 go_wp2_with fail
 go_ret;exact⟨rfl,c.out.1,c.out.2⟩
open Go.Maps Go.Sort
structure Jd4 (w:World) (g cap:Nat) (R:List Rc):Prop where
 at_:∃cur,w.heap[g]? =some (.cells cur 142 (0,0))/\R.length<=cap/\cap<=maxLen/\cur.size=cap*7/\cur.toList.take (R.length*7)=R.flatMap Rc.cells
theorem Jd4.lt{w:World}{g cap:Nat}{R:List Rc}(h:Jd4 w g cap R):g<w.heap.size:=by obtain⟨_,z,_⟩:=h.at_;exact qb2 z
theorem Jd4.le{w:World}{g cap:Nat}{R:List Rc}(h:Jd4 w g cap R):R.length<=cap:=by obtain⟨_,_,z,_⟩:=h.at_;exact z
theorem Jd4.own{w:World}{g cap B:Nat}{R:List Rc}(h:Jd4 w g cap R)(hB:B<=g):w.ownsRow B 142 7 (.slice (some ⟨g,0,none⟩) R.length cap) R.length (R.flatMap Rc.cells):=by
 obtain⟨cur,z,y,x,v,u⟩:=h.at_;exact⟨Jcf Jeh R,.inr ⟨g,cap,cur,rfl,hB,z,y,x,v,u⟩⟩
theorem Jd4.kept{w w':World}{g cap:Nat}{R:List Rc}{row:Option Nat}(h:Jd4 w g cap R)(hg:w.grownBy w' row)(hne:some g≠row):Jd4 w' g cap R:=by
 obtain⟨cur,z,y⟩:=h.at_;exact⟨cur,(hg.block g h.lt hne).trans z,y⟩
theorem Jd4.get{w:World}{g cap:Nat}{R:List Rc}(h:Jd4 w g cap R){j:Nat}(hj:j<R.length):Jbs w g (j*7) R[j]:=by
 have z:=h.own (qaq g)
 have key:∀q,q<7 ->w.cell? ⟨g,j*7+q,none⟩=R[j].cells[q]? :=fun q hq=>by
  rw[z.cellAt (j*7+q) (by omega),Jd5 Jeh R j hj q hq]
 exact⟨key 0 (by omega),key 1 (by omega),key 2 (by omega),key 3 (by omega),key 4 (by omega),key 5 (by omega),key 6 (by omega)⟩
theorem Jd4.free{w:World}{g cap:Nat}{R:List Rc}(h:Jd4 w g cap R)(o:Nat):w.frozen? ⟨g,o,none⟩=false:=by
 obtain⟨cur,z,_⟩:=h.at_;exact frozen_of_row w g o _ _ z
theorem Jfd(g:Nat)(T:TypeId):∀ (vs:List Value) (o:Nat) (w:World) (cs:Array Value),w.heap[g]? =some (.cells cs T (0,0)) ->(w.setCells g o vs).heap[g]? =some (.cells (setMany cs o vs) T (0,0))
 | [],_,_,_,h=>h
 | v::r,o,w,cs,h=>Jfd g T r (o+1) _ _ (qc8 w g o cs T v h)
theorem Jec(g:Nat):∀ (vs:List Value) (o:Nat) (w:World),w.grownBy (w.setCells g o vs) (some g)
 | [],_,w=>qb8 w _
 | v::r,o,w=>by
   have z:w.grownBy (w.setCell ⟨g,o,none⟩ v) (some g):=⟨rfl,rfl,rfl,by simp,fun k hk hne=>qdh w _ v k (fun e=>hne (by rw[e]))⟩;exact z.andThen (Jec g r (o+1) _) (fun j hj=>by cases hj;exact Or.inr rfl)
theorem Jqx(cs:Array Value)(o:Nat)(vs:List Value)(n:Nat)(h:n<=o):(setMany cs o vs).toList.take n=cs.toList.take n:=by
 apply qc9;intro t;by_cases y:t<n
 · rw[qc4 y,qc4 y,qct,qct]
   by_cases z:t<cs.size
   · have:=get_setMany vs o cs t z
     rw[qav (by omega)] at this;rw[qc1 (by simpa using z),qc1 z,<- getElem!_pos _ t (by simpa using z),<- getElem!_pos _ t z,this]
   · rw[Array.getElem?_eq_none (by simp;omega),Array.getElem?_eq_none (by omega)]
 · rw[List.getElem?_take_eq_none (by omega),List.getElem?_take_eq_none (by omega)]
theorem Jd4.set{w:World}{g cap:Nat}{R:List Rc}(h:Jd4 w g cap R)(i:Nat)(x:Rc):Jd4 (w.setCells g (i*7) x.cells) g cap (R.set i x):=by
 obtain⟨cur,p,u,o,s,n⟩:=h.at_;refine⟨_,Jfd g _ _ _ _ _ p,by simpa using u,o,by simpa using s,?_⟩;rw[List.length_set];apply qc9;intro t;by_cases v:t<R.length*7
 · have z:t<cur.size:=by rw[s];exact qar v (Nat.mul_le_mul_right _ u)
   have r:t / 7<R.length:=by omega
   have y:t % 7<7:=Nat.mod_lt _ (by omega);have e1:=Jd5 Jeh (R.set i x) (t / 7) (by simpa using r) (t % 7) y;rw[Nat.div_add_mod' t 7] at e1;have e2:=Jd5 Jeh R (t / 7) r (t % 7) y;rw[Nat.div_add_mod' t 7,<- n,qc4 v,qct] at e2;rw[qc4 v,qct,e1];have e3:=get_setMany x.cells (i*7) cur t z;rw[qc1 (by simpa using z),<- getElem!_pos _ t (by simpa using z),e3,Jeh];by_cases q:i*7<=t/\t<i*7+7
   · rw[qa2 q]
     have ei:i=t / 7:=(by omega);have em:t - i*7=t % 7:=(by omega);rw[em,List.getElem_set,qa2 ei,getElem!_pos _ _ (by rw[Jeh];exact y),qam (by rw[Jeh];exact y)]
   · rw[qav q,List.getElem_set,qav (by omega),<- e2,qc1 z,getElem!_pos _ t z]
 · rw[List.getElem?_take_eq_none (by omega),qbg (by rw[Jcf Jeh];simp;omega)]
theorem Jd4.cut{w:World}{g cap:Nat}{R:List Rc}(h:Jd4 w g cap R)(i:Nat)(hi:i<=R.length)(vs:List Value):Jd4 (w.setCells g (i*7) vs) g cap (R.take i):=by
 obtain⟨cur,x,s,v,u,t⟩:=h.at_;have y:(R.take i).length=i:=by rw[qap];omega
 refine⟨_,Jfd g _ _ _ _ _ x,by omega,v,by simpa using u,?_⟩;rw[y,Jqx _ _ _ _ (qab _)];have e:cur.toList.take (i*7)=(cur.toList.take (R.length*7)).take (i*7):=by rw[List.take_take,Nat.min_eq_left (Nat.mul_le_mul_right _ hi)]
 rw[e,t]
 conv=>lhs;rw[<- qbe i R]
 rw[qay];have z:=Jcf Jeh (R.take i);rw[y] at z;rw[<- z,List.take_left'];rfl
theorem J4g(w:World):(zeroValue 142).run Tryz.prog w= .ok (.agg #[ByteArray.empty,(0:Int),(0:Int),(0:Int),.int .u64 0,(0:Int),(0:Int)]) w:=by kernel_rfl
theorem Jsr{P:Program}(w:World)(t e ty:TypeId)(z:Value)(ht:P.underlying t=some (.slice e))(hv:∀w,(zeroValue e).run P w= .ok z w)(b o n c:Nat)(hn:0<n)(vs:List Value)(hvs:(Builtin.zeroCells z.cells n).toList=vs)(hst:(storeCells ⟨b,o,none⟩ vs 0).run P w= .ok () (w.setCells b o vs)):(Builtin.clear_ #[t] ty #[.slice (some ⟨b,o,none⟩) n c]).run P w= .ok (.tuple #[]) (w.setCells b o vs):=by
 obtain⟨m,rfl⟩:∃m,n=m+1:=⟨n - 1,by omega⟩;simp[Builtin.clear_,run_underlying ht,hv,hvs,hst]
theorem J0i{w:World}{g cap:Nat}{R:List Rc}(h:Jd4 w g cap R)(i:Nat)(hi:i<R.length)(c:Nat)(ty:TypeId):
  ∃vs,(Builtin.clear_ #[43] ty #[.slice (some ⟨g,i*7,none⟩) (R.length - i) c]).run Tryz.prog w= .ok (.tuple #[]) (w.setCells g (i*7) vs):=by
 obtain⟨z,p⟩:∃z:Value,z= .agg #[.string ByteArray.empty,.int .i64 0,.int .i64 0,.int .i64 0,.int .u64 0,.int .i64 0,.int .i64 0]:=⟨_,rfl⟩;have x:z.cells=#[.string ByteArray.empty,.int .i64 0,.int .i64 0,.int .i64 0,.int .u64 0,.int .i64 0,.int .i64 0]:=by rw[p];rfl
 obtain⟨vs,y⟩:∃vs,vs=(Builtin.zeroCells z.cells (R.length - i)).toList:=⟨_,rfl⟩;have o:vs.length=(R.length - i)*7:=by rw[y];simp[Builtin.zeroCells,x]
 have u:∀v∈vs,v.oneCell'=true:=by
  intro v r;rw[y,x] at r;simp[Builtin.zeroCells] at r;obtain⟨t,_,rfl⟩:=r;have n:t % 7<7:=Nat.mod_lt _ (by omega);generalize t % 7=q at n ⊢
  match q,n with
  | 0,_=>rfl
  | 1,_=>rfl
  | 2,_=>rfl
  | 3,_=>rfl
  | 4,_=>rfl
  | 5,_=>rfl
  | 6,_=>rfl
 have m:=h.own (qaq g)
 have s:=run_storeCells_cells (P:=Tryz.prog) g (i*7) vs 0 w (fun j hj=>by
  rw[qdf,m.cellAt (i*7+j) (by omega),qam (by rw[Jcf Jeh];omega)];rfl) (fun j hj=>h.free _) u
 refine⟨vs,?_⟩;simp only[qdf] at s;exact Jsr w _ _ ty z Tryz.underlying43 (fun W=>by rw[p];exact J4g W) g (i*7) _ c (by omega) vs y.symm s
end Go.Proofs.YtglmhddbhhcjdaaGreatDoor
namespace Go.Proofs.YtglmhddbhhcjdaaGreatDoor
open Go.RowKit Go.Maps
def idxP (p:Rc ->Bool) (l:List Rc):Int:=match l.findIdx? p with | some i=>i | none=> -1
theorem J75{p:Rc ->Bool}{l:List Rc}(h:∀r∈l,p r=false):idxP p l= -1:=by
 unfold idxP;have:l.findIdx? p=none:=by rw[List.findIdx?_eq_none_iff];simpa using h
 rw[this]
theorem J76{p:Rc ->Bool}{l:List Rc}{j:Nat}(hj:j<l.length)(h:p l[j]=true)(ha:∀i (hi:i<l.length),i<j ->p l[i]=false):idxP p l=j:=by
 unfold idxP
 have:l.findIdx? p=some j:=by
  rw[List.findIdx?_eq_some_iff_getElem];exact⟨hj,h,fun i hi=>by rw[ha i (by omega) hi];simp⟩
 rw[this]
def Jss (p:Rc ->Bool) (f:Nat) (cb:Array Value) (l:List Rc) (row:Option Nat) (w:World):Prop:=
 ∀ (W:World) (r:Rc),w.grownBy W row ->r∈l ->Cs f (#[r.val]++cb) W fun e w'=>e= .returned (p r)/\W.grownBy w' none
theorem Jgo{a b c:World}{row:Option Nat}(h:a.grownBy b row)(k:b.grownBy c none):a.grownBy c row:=h.andThen k (fun j hj=>by cases hj)
theorem Jwg(p:Rc ->Bool)(f:Nat)(cb:Array Value)(A:Option Addr)(n c:Nat)(l:List Rc)(w:World)(h:Rcs w A n l)(ef:∀args w,(callFunc f args).run Tryz.prog w= .ok (.enter f args) w)(hso:Jss p f cb l none w):
  Cs 322 #[.slice A n c,.func (.func f) #[] cb] w fun e w'=>e= .returned (idxP p l:Int)/\w.grownBy w' none:=by
 have W:=h.n_le;have Y:=zI h.len;unfold maxLen at W;have V:Aside _:=hso;clear hso;go_enter Tryz.func322,Tryz.ntmps322;go_wp2;go_loopw [8] (fun i wr=>∃j:Nat,j<=n/\i= .int .i64 j/\(∀i (y:i<l.length),i<j ->p l[i]=false)/\w.grownBy wr none) (fun i _=>n - (intOf i).toNat)
 case atStart=>exact⟨0,qaq _,rfl,fun i _ y=>absurd y (by omega),qb8 _ _⟩
 case round=>
  obtain⟨j,T,rfl,v,z⟩:=hrel;have o:=zI v;clear v;by_cases m:j<n
  · have K:j<l.length:=by rw[Y.out];exact m
    have t:Below w.heap.size w wr:=⟨z.os,z.tape,z.output,z.size,fun k hk=>z.block k hk (by simp)⟩;obtain⟨b,off,rfl,S,X⟩:=(h.below t).get K;obtain⟨r0,r1,r2,r3,r4,r5,r6⟩:=X;have g:=V.out wr _ z (qal K);have s:=zI (fun e:p (l[j]'K)=true=>J76 K e o.out)
    have q:=zI (fun e:p (l[j]'K)=false=>show ∀i (y:i<l.length),i<j+1 ->p l[i]=false from fun i y hij=>by
     by_cases e2:i=j
     · subst e2;exact e
     · exact o.out i y (by omega))
    clear t;generalize (l[j]'K)=x at*;cases hp:p x<;>rw[hp] at g s q
    · have d:=zI (q.out rfl)
      clear q s;go_wp2_with (go_at_fn f;refine g.mono ?_;rintro e w2 ⟨rfl,u⟩)
      go_roundw
      case rel=>exact⟨j+1,by omega,by go_num,d.out,Jgo z u⟩
      case measure=>simp[intOf];omega
    · have a:=zI (s.out rfl)
      clear q s;go_wp2_with (go_at_fn f;refine g.mono ?_;rintro e w2 ⟨rfl,u⟩)
      go_ret;exact⟨by rw[a.out];rfl,Jgo z u⟩
  · have Z:j=n:=by omega
    subst Z
    have U:=zI (J75 (p:=p) (l:=l) (fun r hr=>by
     obtain⟨i,y,rfl⟩:=qcj hr;exact o.out i y (by rw[<- Y.out];exact y)))
    go_wp2;go_ret;exact⟨by rw[U.out];rfl,z⟩
structure Jd9 (q:Rc ->Bool) (l R:List Rc) (j i:Nat):Prop where
 len:R.length=l.length
 done:R.take i=(l.take j).filter q
 high:R.drop j=l.drop j
 lt:i<j
 jl:j<=l.length
theorem Jd9.start{q:Rc ->Bool}{l:List Rc}{k:Nat}(hk:k<l.length)(h:q l[k]=false)(ha:∀i (hi:i<l.length),i<k ->q l[i]=true):Jd9 q l l (k+1) k:=by
 refine⟨rfl,?_,rfl,by omega,by omega⟩;rw[qak hk,qcv,qbu,qav (by rw[h];simp),List.filter_nil,qbk];refine(qbv.2 fun r hr=> ?_).symm;obtain⟨i,hi,rfl⟩:=qcj hr;rw[qap] at hi;rw[List.getElem_take];exact ha i (by omega) (by omega)
theorem Jd9.at_{q:Rc ->Bool}{l R:List Rc}{j i:Nat}(h:Jd9 q l R j i)(hj:j<l.length)(hR:j<R.length):R[j]=l[j]:=by
 have z:R[j]? =l[j]? :=by
  have e1:(R.drop j)[0]? =R[j]? :=by rw[List.getElem?_drop];simp
  have e2:(l.drop j)[0]? =l[j]? :=by rw[List.getElem?_drop];simp
  rw[<- e1,h.high,e2]
 rw[qam hR,qam hj] at z;exact qc3 z
theorem Jd9.keep{q:Rc ->Bool}{l R:List Rc}{j i:Nat}(h:Jd9 q l R j i)(hj:j<l.length)(hq:q l[j]=true):Jd9 q l (R.set i l[j]) (j+1) (i+1):=by
 have z:i<R.length:=by rw[h.len];have:=h.lt;have:=h.jl;omega
 refine⟨by rw[List.length_set,h.len],?_,?_,by have:=h.lt;omega,by omega⟩
 · rw[qak (by simpa using z),List.getElem_set_self,List.take_set_of_le (qab _),h.done,qak hj,qcv,qbu,qa2 hq,List.filter_nil]
 · rw[List.drop_set_of_lt (by have:=h.lt;omega)]
   have e1:R.drop (j+1)=(R.drop j).drop 1:=by rw[qdi]
   have e2:l.drop (j+1)=(l.drop j).drop 1:=by rw[qdi]
   rw[e1,e2,h.high]
theorem Jd9.skip{q:Rc ->Bool}{l R:List Rc}{j i:Nat}(h:Jd9 q l R j i)(hj:j<l.length)(hq:q l[j]=false):Jd9 q l R (j+1) i:=by
 refine⟨h.len,?_,?_,by have:=h.lt;omega,by omega⟩
 · rw[h.done,qak hj,qcv,qbu,qav (by rw[hq];simp),List.filter_nil,qbk]
 · have e1:R.drop (j+1)=(R.drop j).drop 1:=by rw[qdi]
   have e2:l.drop (j+1)=(l.drop j).drop 1:=by rw[qdi]
   rw[e1,e2,h.high]
theorem Jd9.end_{q:Rc ->Bool}{l R:List Rc}{i:Nat}(h:Jd9 q l R l.length i):R.take i=l.filter q/\(l.filter q).length=i:=by
 have z:=h.done;rw[qb4] at z;refine⟨z,?_⟩;rw[<- z,qap,h.len];have:=h.lt;omega
theorem Jwh(p:Rc ->Bool)(l:List Rc):(idxP p l= -1/\l.filter (fun r=> !p r)=l)\/∃k:Nat,∃hk:k<l.length,idxP p l=k/\p l[k]=true/\∀i (hi:i<l.length),i<k ->p l[i]=false:=by
 unfold idxP;cases h:l.findIdx? p with
 | none=>
   rw[List.findIdx?_eq_none_iff] at h;exact .inl ⟨rfl,qbv.2 fun r hr=>by have:=h r hr;simpa using this⟩
 | some k=>
   rw[List.findIdx?_eq_some_iff_getElem] at h;obtain⟨hk,z,y⟩:=h;exact .inr ⟨k,hk,rfl,z,fun i hi hik=>by simpa using y i hik⟩
theorem Jst(p:Rc ->Bool)(f:Nat)(cb:Array Value)(B:Nat)(v:Value)(l:List Rc)(w:World)(h:w.ownsRow B 142 7 v l.length (l.flatMap Rc.cells))(hok:∀r∈l,r.Ok)(hlen:l.length<1000000)(ef:∀args w,(callFunc f args).run Tryz.prog w= .ok (.enter f args) w)(hso:Jss p f cb l v.ownBlock w):
  Cs 273 #[v,.func (.func f) #[] cb] w fun e w'=>∃v',e= .returned v'/\w'.ownsRow B 142 7 v' (l.filter fun r=> !p r).length ((l.filter fun r=> !p r).flatMap Rc.cells)/\w.grownBy w' v.ownBlock:=by
 obtain⟨A,c,rfl,U⟩:=Jr1 h hok (by unfold maxLen;omega);have J:=Jwg p f cb A l.length c l w U ef (fun W r hg hr=>hso W r (hg.but _) hr);rcases Jwh p l with⟨e1,e2⟩ | ⟨k,hk,e1,T,S⟩
 · rw[e1] at J
   rw[e2];have HO:=zI h;clear h hso e1 e2;go_enter Tryz.func273,Tryz.ntmps273;go_wp2_with (go_at_call 322;refine J.mono ?_;rintro e w1 ⟨rfl,t⟩)
   go_ret;exact⟨_,rfl,HO.out.kept t (by cases A<;>simp[Value.ownBlock]),t.but _⟩
 · rw [e1] at J
   obtain⟨g,cap,cur,ev,I,b,H,G,P,ht⟩:∃g cap cur,Value.slice A l.length c= .slice (some ⟨g,0,none⟩) l.length cap/\B<=g/\w.heap[g]? =some (.cells cur 142 (0,0))/\l.length<=cap/\cap<=maxLen/\cur.size=cap*7/\cur.toList.take (l.length*7)=l.flatMap Rc.cells:=by
    rcases h.2 with⟨_,h0⟩ | h2
    · omega
    · exact h2
   obtain⟨rfl,F⟩:A=some ⟨g,0,none⟩/\cap=c:=by cases ev;exact⟨rfl,rfl⟩
   subst F;clear ev;have O:Jd4 w g cap l:=⟨cur,b,H,G,P,ht⟩;have N:Value.ownBlock (.slice (some ⟨g,0,none⟩) l.length cap)=some g:=rfl;rw[N] at hso ⊢;have HD:Aside _:=hso;have HS:=zI (Jd9.start (q:=fun r=> !p r) hk (by simp[T]) (fun i hi hik=>by simp[S i hi hik]));clear h hso e1 T S b P ht N U;have Hb:((k:Int)== -1)=false:=qaw.2 (by omega);go_enter Tryz.func273,Tryz.ntmps273;go_wp2_with (go_at_call 322;refine J.mono ?_;rintro e w1 ⟨rfl,t⟩)
   go_loopw [5,6] (fun s5 s6 wr=>∃ (i j:Nat) (R:List Rc),s5= .int .i64 i/\s6= .int .i64 j/\Jd4 wr g cap R/\Jd9 (fun r=> !p r) l R j i/\w.grownBy wr (some g)) (fun _ s6 _=>l.length - (intOf s6).toNat)
   case atStart=>exact⟨k,k+1,l,rfl,by go_num,O.kept t (by simp),HS.out,t.but _⟩
   case round=>
    obtain⟨i,j,R,rfl,rfl,Z,z,n⟩:=hrel;have Hd:=z.lt;have He:=z.jl;have HI:=zI z;have E:=z.len;by_cases y:j<l.length
    · have M:j<R.length:=by omega
      have Y:i<R.length:=(by omega);have L:=z.at_ y M;have X:=Z.get M;rw[L] at X;obtain⟨r0,r1,r2,r3,r4,r5,r6⟩:=X;have D:=HD.out (wr.alloc (.cells #[(l[j]'y).nm,((l[j]'y).st:Int),((l[j]'y).ag.c:Int),((l[j]'y).ag.hi:Int),.int .u64 (l[j]'y).ag.lo,((l[j]'y).ag.mn:Int),((l[j]'y).ag.mx:Int)] 142)) _ (Jgo n (qbj _ _ _)) (qal y);have m:=zI (z.keep y);have d:=zI (z.skip y);have HR:=zI Z;have Hf:=Z.lt;clear z L HI;generalize (l[j]'y)=x at*;cases hp:p x<;>rw[hp] at D m d
      · have V:=zI (m.out rfl)
        clear m d;have g0:(0:Int)<=(i:Int):=(by omega);have g1:(i:Int)<(l.length:Int):=(by omega)
        go_wp2_with (first
         | (go_at_fn f;refine D.mono ?_;rintro e w2 ⟨rfl,u⟩
            have R2:=(HR.out.kept (qbj wr (.cells #[x.nm,(x.st:Int),(x.ag.c:Int),(x.ag.hi:Int),.int .u64 x.ag.lo,(x.ag.mn:Int),(x.ag.mx:Int)] 142) none) (by simp)).kept u (by simp);obtain⟨y0,y1,y2,y3,y4,y5,y6⟩:=R2.get Y;have f0:=R2.free (i*7);have f1:=R2.free (i*7+1);have f2:=R2.free (i*7+2);have f3:=R2.free (i*7+3);have f4:=R2.free (i*7+4);have f5:=R2.free (i*7+5);have f6:=R2.free (i*7+6);obtain⟨z0,z1,z2,z3,z4,z5,z6⟩:=(Jbs.new wr x).keep u (by simp);have C:=zI R2;clear R2))
        go_roundw
        case rel=>exact⟨i+1,j+1,R.set i x,by go_num,by go_num,C.out.set i x,V.out,(Jgo (Jgo n (qbj _ _ _)) u).andThen (Jec g x.cells (i*7) w2) (fun j hj=>by cases hj;exact Or.inr rfl)⟩
        case measure=>simp[intOf];omega
      · have V:=zI (d.out rfl)
        clear m d;go_wp2_with (go_at_fn f;refine D.mono ?_;rintro e w2 ⟨rfl,u⟩)
        go_roundw
        case rel=>exact⟨i,j+1,R,rfl,by go_num,(HR.out.kept (qbj _ _ none) (by simp)).kept u (by simp),V.out,(Jgo n (qbj _ _ _)).andThen u (fun j hj=>by cases hj)⟩
        case measure=>simp[intOf];omega
    · have hJ:j=l.length:=by omega
      subst hJ;obtain⟨a,s⟩:=z.end_;have Y:i<R.length:=(by omega);have Hc:=Z.le;obtain⟨vs,Ha⟩:=J0i Z i Y (cap - i) 0;rw[E] at Ha;have o:=Z.cut i (by omega) vs;rw[a] at o;have HC:=zI o;have K:=zI s;clear o a s HI z Z;go_wp2;go_ret;have ho:=HC.out.own I;rw[K.out] at ho;rw[K.out];exact⟨_,rfl,ho,n.andThen (Jec g vs (i*7) wr) (fun j hj=>by cases hj;exact Or.inr rfl)⟩
theorem Jal.ok{w:World}{g mm:Nat}{ev:Int}{l:List Rc}(h:Jal w g mm ev l):∀r∈l,r.Ok:=by obtain⟨_,_,z⟩:=h.map.own;exact z.ok
def rngP (s:ByteArray) (a b:Int) (r:Rc):Bool:=(!r.nm.toList==s.toList) || decide (r.st<a) || decide (b<=r.st)
theorem Jwi(s:ByteArray)(a b:Int)(b0:Nat)(r:Rc)(w:World)(h0:w.cell? ⟨b0,0,none⟩=some (.string s))(h1:w.cell? ⟨b0+1,0,none⟩=some (.int .i64 a))(h2:w.cell? ⟨b0+2,0,none⟩=some (.int .i64 b)):
  Cs 274 #[r.val,b0,.pointer (some ⟨b0+1,0,none⟩),.pointer (some ⟨b0+2,0,none⟩)] w fun e w'=>e= .returned (rngP s a b r)/\w.grownBy w' none:=by
 have l0:=qbh w _ h0;have l1:=qbh w _ h1;have l2:=qbh w _ h2;simp only at l0 l1 l2;go_enter Tryz.func274,Tryz.ntmps274;go_wp2
 all_goals
  go_ret;exact⟨Jaj (by simp_all [rngP]),qbj _ _ _⟩
theorem Jwj(s:ByteArray)(a b:Int){w:World}{g mm:Nat}{ev:Int}{l:List Rc}(h:Jal w g mm ev l)(hfew:l.length<1000000):
  Cs 209 #[g,(s:ByteArray),(a:Int),(b:Int)] w fun e w'=>∃v,e= .returned v/\w'.ownsRow w.heap.size 142 7 v (l.filter fun r=> !rngP s a b r).length ((l.filter fun r=> !rngP s a b r).flatMap Rc.cells)/\Below w.heap.size w w':=by
 have u:Below w.heap.size w (((w.alloc (.cells #[s] 9)).alloc (.cells #[(a:Int)] 3)).alloc (.cells #[(b:Int)] 3)):=(((qaa _ _).alloc (qab _) _).alloc (by simp) _).alloc (by simp;omega) _;have d:=h.below u;have c0:(((w.alloc (.cells #[s] 9)).alloc (.cells #[(a:Int)] 3)).alloc (.cells #[(b:Int)] 3)).cell? ⟨w.heap.size,0,none⟩=some (.string s):=by simp[go_sem,qbz]
 have c1:(((w.alloc (.cells #[s] 9)).alloc (.cells #[(a:Int)] 3)).alloc (.cells #[(b:Int)] 3)).cell? ⟨w.heap.size+1,0,none⟩=some (.int .i64 a):=by simp[go_sem,qbz]
 have c2:(((w.alloc (.cells #[s] 9)).alloc (.cells #[(a:Int)] 3)).alloc (.cells #[(b:Int)] 3)).cell? ⟨w.heap.size+2,0,none⟩=some (.int .i64 b):=by simp[go_sem]
 have t:(((w.alloc (.cells #[s] 9)).alloc (.cells #[(a:Int)] 3)).alloc (.cells #[(b:Int)] 3)).heap.size=w.heap.size+3:=by simp
 have m:=zI h.ok;have q:=zI t;have C0:=zI c0;have C1:=zI c1;have C2:=zI c2;clear t c0 c1 c2;go_enter Tryz.func209,Tryz.ntmps209;go_wp2_with fail
 refine(Jno d hfew).mono ?_;rintro e w4 ⟨v,rfl,z,y⟩;rw[q.out] at z y;have j:=y.size;rw[q.out] at j
 have n:Jss (rngP s a b) 274 #[w.heap.size,.pointer (some ⟨w.heap.size+1,0,none⟩),.pointer (some ⟨w.heap.size+2,0,none⟩)] l v.ownBlock w4:=fun W r hg _=>by
  have e0:∀o,o<3 ->some (w.heap.size+o)≠v.ownBlock:=fun o ho e=>by have:=(z.lt _ e.symm).1;omega
  exact Jwi s a b w.heap.size r W (hg.cell ((y.cell (p:=⟨w.heap.size,0,none⟩) (by simp)).trans C0.out) (e0 0 (by omega))) (hg.cell ((y.cell (p:=⟨w.heap.size+1,0,none⟩) (by simp)).trans C1.out) (e0 1 (by omega))) (hg.cell ((y.cell (p:=⟨w.heap.size+2,0,none⟩) (by simp)).trans C2.out) (e0 2 (by omega)))
 have c:=Jst (rngP s a b) 274 _ _ v l w4 z m.out hfew (enters_of Tryz.func274 (by kernel_rfl) rfl) n;have f:=z.lt;have Z:=zI f;clear n z f;go_wp2_with fail
 refine c.mono ?_;rintro e w5 ⟨v',rfl,x,i⟩;go_wp2;go_ret;exact⟨_,rfl,Jgg x (by omega),(u.trans (y.mono (by omega))).grown i (by omega) (fun k hk=>by have:=(Z.out k hk).1;omega)⟩
end Go.Proofs.YtglmhddbhhcjdaaGreatDoor
namespace Go.Proofs.YtglmhddbhhcjdaaGreatDoor
open Go.ChangeShapes Go.WideShapes Go.ChangeAt Go.RowKit Go.Deep
theorem J0j(A:Option Addr)(n c:Nat)(B:Option Addr)(m d:Nat)(r:Rch)(f:Int)(w:World)(h:Jef w A n B m r)(hn:n<=1000000):
  Cs 208 #[rchV r.now r.nm A n c B m d,(f:Int)] w (RB w (r.cover f:Int)):=by
 have t:Below w.heap.size w (w.alloc (.cells #[(r.now:Int),r.nm,.slice A n c,.slice B m d] 161)):=(qaa _ w).alloc (qab _) _;have b0:=Bx.new w 161 #[(r.now:Int),r.nm,.slice A n c,.slice B m d];have o:=zI h.ts.len;have a:=zI h;clear h;go_enter Tryz.func208,Tryz.ntmps208;go_wp2_with fail
 go_loopw [5,10] (fun _ i wr=>∃j:Nat,j<=n/\i= .int .i64 j/\Hid (∀i,i<j ->f<r.from_ i)/\Bx wr w.heap.size 161 #[(r.now:Int),r.nm,.slice A n c,.slice B m d]/\Below w.heap.size w wr) (fun _ i _=>n - (intOf i).toNat)
 case atStart=>exact⟨0,qaq _,rfl,zI (fun i u=>absurd u (by omega)),b0,t⟩
 case round=>
  clear b0 t;obtain⟨j,Y,rfl,l,p,y⟩:=hrel;have q0:=p.at_ 0 rfl;have q1:=p.at_ 1 rfl;have q2:=p.at_ 2 rfl;have q3:=p.at_ 3 rfl;by_cases s:j<n
  · have v:=zI (Jg1 A n c B m d r j wr (a.out.below y) hn s)
    obtain⟨z,q⟩:∃z,r.from_ j=z:=⟨_,rfl⟩;rw[q] at v;by_cases b:z<=f
    · have k:=zI (J2e (r:=r) (f:=f) (j:=j) (by rw[o.out];exact s) (by rw[q];exact b) (fun i u=>by have:=l.out i u;omega))
      clear q;go_wp2_with fail
      refine v.out.mono ?_;rintro e w2 ⟨rfl,x⟩;go_wp2;go_ret;exact⟨Jby k.out.symm,y.trans (x.mono y.size)⟩
    · have Z:=zI (show ∀i,i<j+1 ->f<r.from_ i from fun i u=>by
       by_cases e:i=j
       · subst e;omega
       · exact l.out i (by omega))
      have W:decide (z<=f)=false:=qae b;clear q;go_wp2_with fail
      refine v.out.mono ?_;rintro e w2 ⟨rfl,x⟩;go_wp2_with fail
      go_roundw
      case rel=>exact⟨j+1,by omega,by go_num,Z,p.below x,y.trans (x.mono y.size)⟩
      case measure=>simp[intOf];omega
  · have g:j=n:=by omega
    subst g;have k:=zI (show r.cover f=(j:Int) - 1 from by rw[J2f (r:=r) (f:=f) (by rw[o.out];intro i u;have:=l.out i u;omega),o.out]);go_wp2;go_ret;exact⟨Jby k.out.symm,y⟩
section
variable {H:Type} {enc:TypeId×Value ->H} {w:World} {base:Nat} {spare:Nat ->Bool} {held:Bool}
theorem Jsu{m:Nat}{cs:List Value}{y:DataW H×List MemPlace}(h:DataW.trod enc Tryz.prog w base spare held m 85 cs=some y):∃s:Smp,cs=s.cells/\s.Ok:=by
 obtain⟨xs,n,_,_,q,x,v⟩:=DataW.trod_struct Tryz.underlying85 h;have p:Tryz.prog.cellsOf 85=3:=by kernel_rfl
 rw[p] at q;have o:xs.length=3:=x
 match cs,q with
 | [c0,c1,c2],_=>
   have at_:∀i,i<3 ->∃z,xs[i]? =some z:=fun i hi=>⟨_,qam (by omega)⟩;obtain⟨y0,e0⟩:=at_ 0 (by omega);obtain⟨y1,e1⟩:=at_ 1 (by omega);obtain⟨y2,e2⟩:=at_ 2 (by omega);have ks:Tryz.prog.cellsOf 9=1:=by kernel_rfl
   have ki:Tryz.prog.cellsOf 3=1:=by kernel_rfl
   have t0:DataW.trod enc Tryz.prog w base spare held n 9 [c0]=some y0:=by
    rw[<- e0,<- v 0 _ rfl];show _=DataW.trod enc Tryz.prog w base spare held n 9 (List.take (Tryz.prog.cellsOf 9) [c0,c1,c2]);rw[ks];rfl
   have t1:DataW.trod enc Tryz.prog w base spare held n 3 [c1]=some y1:=by
    rw[<- e1,<- v 1 _ rfl];show _=DataW.trod enc Tryz.prog w base spare held n 3 (List.take (Tryz.prog.cellsOf 3) [c1,c2]);rw[ki];rfl
   have t2:DataW.trod enc Tryz.prog w base spare held n 3 [c2]=some y2:=by
    rw[<- e2,<- v 2 _ rfl];show _=DataW.trod enc Tryz.prog w base spare held n 3 (List.take (Tryz.prog.cellsOf 3) [c2]);rw[ki];rfl
   obtain⟨a0,u,_,w0⟩:=DataW.trod_string Tryz.underlying9 t0;obtain⟨a1,t,_,w1⟩:=DataW.trod_int Tryz.underlying3 t1;obtain⟨a2,r,_,w2⟩:=DataW.trod_int Tryz.underlying3 t2;injection u with u;injection t with t;injection r with r;subst u t r;exact⟨⟨a0,a1,a2⟩,rfl,w0,Jjx w1,Jjx w2⟩
theorem J0k{α:Type}{cs:α ->List Value}{k:Nat}(hk:∀x,(cs x).length=k)(hk0:0<k){A:Option Addr}{n:Nat}{Q:α ->Prop}(hr:∀i,i<n ->∃b off x,A=some ⟨b,off,none⟩/\b<w.heap.size/\Q x/\∀j u,(cs x)[j]? =some u ->w.cell? ⟨b,off+(i*k+j),none⟩=some u):
  ∃l:List α,l.length=n/\Sl w A (l.flatMap cs)/\∀x∈l,Q x:=by
 obtain⟨l,t,y⟩:=Jjs (P:=fun i (x:α)=>Q x/\∃b off,A=some ⟨b,off,none⟩/\b<w.heap.size/\∀j u,(cs x)[j]? =some u ->w.cell? ⟨b,off+(i*k+j),none⟩=some u) n (fun i z=>by
  obtain⟨b,off,x,s,q,p,o⟩:=hr i z;exact⟨x,p,b,off,s,q,o⟩)
 refine⟨l,t,⟨fun hne=> ?_⟩,fun x hx=>by obtain⟨i,z,rfl⟩:=qcj hx;exact(y i z).1⟩
 have m:0<l.length:=by
  cases l with
  | nil=>exact absurd rfl hne
  | cons a r=>simp
 obtain⟨_,b,off,e,h,_⟩:=y 0 m;refine⟨b,off,e,h,fun j u hu=> ?_⟩;have g:j<l.length*k:=by have:=(qbo.1 hu).1;rwa [Jcf hk] at this
 have z:j / k<l.length:=(Nat.div_lt_iff_lt_mul hk0).2 g;obtain⟨_,b',off',e',_,f⟩:=y (j / k) z;rw[e] at e';cases e'
 have v:=Jd5 hk l (j / k) z (j % k) (Nat.mod_lt _ hk0);rw[Nat.div_add_mod' j k,hu] at v;have:=f (j % k) u v.symm
 rwa [Nat.div_add_mod' j k] at this
theorem Jqy{A:Option Addr}{n c:Nat}{d:DataW H}{p:List MemPlace}(h:DataW.Trod enc Tryz.prog w base spare held 22 (.slice A n c) d p):∃l,Smps w A n l:=by
 have z:Tryz.prog.cellsOf 85=3:=by kernel_rfl
 obtain⟨v,u⟩:=Joz Tryz.underlying22 (by rw[z];omega) h
 obtain⟨l,s,r,q⟩:=J0k (w:=w) (A:=A) (n:=n) Jyx (by omega) (Q:=Smp.Ok) (fun i hi=>by
  obtain⟨b,off,cs,m,y,e,o,_,x,k⟩:=u i hi;rw[z] at x;obtain⟨t,rfl,j⟩:=Jsu k;exact⟨b,off,t,e,o,j,x⟩)
 exact⟨l,r,s,v,q⟩
structure J0l (w:World) (v:Value) (x:Option Addr×Nat×Nat×List Smp):Prop where
 val:v= .slice x.1 x.2.1 x.2.2.1
 sm:Smps w x.1 x.2.1 x.2.2.2
theorem J0m{r:Go.Reach}{b0:Nat}{v:Value}{d:DataW H}{p:List MemPlace}(hv:Value.okWide Tryz.prog w r b0 22 v)(h:DataW.Trod enc Tryz.prog w base spare held 22 v d p):∃x,J0l w v x:=by
 obtain⟨a,len,cap,rfl⟩:=okWide_slice Tryz.underlying22 hv;obtain⟨l,z⟩:=Jqy h;exact⟨(a,len,cap,l),rfl,z⟩
end
def Joh (few:Int) (n:Nat) (w:World) (e:Ending) (w':World):Prop:=∃b:Bool,e= .returned b/\(b=true ->(n:Int)<=few)/\w=w'
theorem J4h(few:Int)(A:Option Addr)(n cap:Nat)(l:List Smp)(w:World)(h:Smps w A n l)(hf:0<=few/\few<=1000):
  Cs 7 #[(few:Int),.slice A n cap] w (Joh few n w):=by
 have q:=h.n_le;have p:=zI h.len;unfold maxLen at q;obtain⟨o,m⟩:=hf;go_enter Tryz.func7,Tryz.ntmps7;go_wp2;go_loop [5] (fun i=>∃j:Nat,j<=n/\i= .int .i64 j) (fun i=>n - (intOf i).toNat)
 case atStart=>exact⟨0,qaq _,rfl⟩
 case round=>
  obtain⟨j,d,rfl⟩:=hrel;have z:∀b:Bool,b=decide ((n:Int)<=few) ->Joh few n w (.returned (b:Bool)) w:=fun b v=>⟨b,rfl,fun e=>by rw[e] at v;simpa using v.symm,rfl⟩;have y:Joh few n w (.returned false) w:=⟨false,rfl,by simp,rfl⟩;have r:=zI z;have k:=zI y;clear z y;by_cases u:j<n
  · by_cases t:(j:Int)<few
    · have K:j<l.length:=by rw[p.out];exact u
      obtain⟨b,off,rfl,v,X⟩:=h.get K;have r0:=X.c0;have s:=(h.ok _ (qal K)).nm;unfold maxLen at s;clear X;generalize (l[j]'K)=x at*;have g0:(0:Int)<=(j:Int):=(by omega);have g1:(j:Int)<(n:Int):=(by omega);by_cases g:60<x.nm.size
      · go_wp2
        go_ret;exact k.out
      · go_wp2
        go_round
        case rel=>exact⟨j+1,by omega,by go_num⟩
        case measure=>simp[intOf];omega
    · have f:decide ((j:Int)<few)=false:=qae t
      go_wp2;go_ret;exact r.out _ rfl
  · have f:decide ((j:Int)<(n:Int))=false:=qae (by omega)
    go_wp2;go_ret;exact r.out _ rfl
end Go.Proofs.YtglmhddbhhcjdaaGreatDoor
namespace Go.Proofs.YtglmhddbhhcjdaaGreatDoor
open Go.RowKit
theorem Jun:(Tryz.prog.info? 85).map (fun i=>(i.zero,i.size,i.bytes))=some (some (.agg #[ByteArray.empty,(0:Int),(0:Int)]),3,32):=by kernel_rfl
theorem J99{w:World}{base:Nat}{v:Value}{n:Nat}{xs:List Value}(h:w.ownsRow base 85 3 v n xs)(A:Option Addr)(m c:Nat)(news:List Value)(hl:news.length=m*3)(hs:Sl w A news)(h1:∀u∈news,u.oneCell'=true)(hn:n+m<=1000000)(hb:base<=w.heap.size):
  ∃v' w',(Builtin.append_ #[22,22] 22 #[v,.slice A m c]).run Tryz.prog w= .ok v' w'/\w'.ownsRow base 85 3 v' (n+m) (xs++news)/\w.grownBy w' v.ownBlock:=by
 obtain⟨i0,t,z,y,x⟩:=qbx Jun;obtain⟨v',w',r1,r2,r3,_⟩:=Jbl (P:=Tryz.prog) w base 22 22 85 i0 _ 3 32 Tryz.underlying22 t z y x rfl (by decide) v n xs h A m c news hl hs h1 (by unfold maxLen;omega) (by omega) hb;exact⟨v',w',r1,r2,r3⟩
theorem J77{ops:Array Oper}{rest:List Oper}{o:Oper}{a:Act}{Q:Exit ->Act ->World ->Prop}{w:World}{base:Nat}{v:Value}{n:Nat}{xs:List Value}(hgd:o.guard=none)(s x:Operand)(ho:o.op= .call {callee:= .builtin .append,args:=#[s,x],argTypes:=#[22,22]})(h:w.ownsRow base 85 3 v n xs)(hs:a.eval s=v)(A:Option Addr)(m c:Nat)(news:List Value)(hx:a.eval x= .slice A m c)(hl:news.length=m*3)(hsl:Sl w A news)(h1:∀u∈news,u.oneCell'=true)(hn:n+m<=1000000)(hb:base<=w.heap.size)(hK:∀A' c' w',w'.ownsRow base 85 3 (.slice A' (n+m) c') (n+m) (xs++news) ->w.grownBy w' v.ownBlock ->wpList Tryz.prog ops Q rest (a.put o.dst (.slice A' (n+m) c')) w'):wpList Tryz.prog ops Q (o::rest) a w:=by
 obtain⟨i0,q,z,y,t⟩:=qbx Jun;refine Jan (P:=Tryz.prog) w hgd s x 22 ho base 85 i0 _ 3 32 Tryz.underlying22 q z y t rfl (by decide) v n xs hs h A m c news hx hl hsl h1 (by unfold maxLen;omega) (by omega) hb ?_;intro v' w' r p _;obtain⟨A',c',rfl,_⟩:=Jap r;exact hK A' c' w' r p
end Go.Proofs.YtglmhddbhhcjdaaGreatDoor
namespace Go.Proofs
open Go.Shelf
def Tryz.cloneD_ren:Go.Shelf.Ren:=⟨fun | 5=>85 | 7=>157 | n=>n,fun | 23=>94 | 25=>3 | 3=>9 | 4=>4 | 20=>20 | n=>n,fun | n=>n⟩
theorem Tryz.cloneD:Go.Proofs.SlLaysW.n5 Tryz.prog Tryz.cloneD_ren:={
 mixed:=by kernel_rfl
 f5:=⟨Tryz.f85.name,by decide,Tryz.func85.trans (congrArg some (by kernel_rfl))⟩
 f7:=Tryz.func157.trans (congrArg some (by kernel_rfl))
 t4:=Tryz.underlying4
 a4:=Tryz.isAgg4
 z4:=Tryz.sizeOf4
 v4:=Tryz.zeroValue4
 t20:=Tryz.underlying20
 a20:=Tryz.isAgg20
 z20:=Tryz.sizeOf20
 v20:=Tryz.zeroValue20
 t23:=Tryz.underlying94
 a23:=Tryz.isAgg94
 z23:=Tryz.sizeOf94
 v23:=Tryz.zeroValue94}
end Go.Proofs
namespace Go.Proofs.YtglmhddbhhcjdaaGreatDoor.auditFresh
open Go.ChangeShapes Go.WideShapes Go.ChangeAt
theorem k1:(Rows.auditFreshRow.wf (OpenSpec.ofChange (OpenSpec.ofChange Rows.auditFreshSpec).bare))=true:=by kernel_rfl
theorem k2:(laidOutB Tryz.pinned.checked.prog)=true:=by kernel_rfl
theorem k3:(mapsRowed Tryz.pinned.checked.prog)=true:=by kernel_rfl
theorem k4:(Tryz.f5.params.all (Tryz.pinned.checked.prog.readableRec ·))=true:=by kernel_rfl
theorem k5:(namedTie Tryz.pinned.checked.prog Rows.auditFreshRow.named (OpenSpec.ofChange Rows.auditFreshSpec).bare.vars)=true:=by kernel_rfl
theorem k6:(Rows.auditFreshRow.stops==[])=true:=by kernel_rfl
theorem k7:(Tryz.pinned.checked.prog.stops==[])=true:=by kernel_rfl
theorem k8:(Rows.auditFreshRow.knobs==[])=true:=by kernel_rfl
theorem k9:(Tryz.pinned.checked.prog.stopKnobs==[])=true:=by kernel_rfl
theorem k10:(Rows.auditFreshRow.inPlace==Tryz.pinned.checked.prog.inPlace 5)=true:=by kernel_rfl
theorem k11:(Rows.auditFreshRow.unfollowed==Tryz.pinned.checked.prog.unfollowed 5)=true:=by kernel_rfl
theorem k12:(Rows.auditFreshRow.recurses==Tryz.pinned.checked.prog.recurses 5)=true:=by kernel_rfl
theorem k13:(Rows.auditFreshRow.named==Tryz.pinned.checked.prog.varsNamed 5)=true:=by kernel_rfl
theorem k14:(Rows.auditFreshRow.maps==(Tryz.f5.params.toList++(OpenSpec.ofChange Rows.auditFreshSpec).bare.plain.varTypes Tryz.pinned.checked.prog).any (Tryz.pinned.checked.prog.mapsRec ·))=true:=by kernel_rfl
theorem k15:(Rows.auditFreshRow.ifaces==(Tryz.f5.params.toList++(OpenSpec.ofChange Rows.auditFreshSpec).bare.plain.varTypes Tryz.pinned.checked.prog).any (Tryz.pinned.checked.prog.ifacesRec ·))=true:=by kernel_rfl
theorem k16:(Rows.auditFreshRow.mapsOut==Tryz.pinned.checked.prog.mapsAmong Tryz.f5.resultTypes.toList)=true:=by kernel_rfl
theorem k17:(Rows.auditFreshRow.loops==(Tryz.f5.params.toList++(OpenSpec.ofChange Rows.auditFreshSpec).bare.plain.varTypes Tryz.pinned.checked.prog).any (Tryz.pinned.checked.prog.loopsFrom ·))=true:=by kernel_rfl
theorem k18:(Rows.auditFreshRow.wideKeys==(Tryz.f5.params.toList++(OpenSpec.ofChange Rows.auditFreshSpec).bare.plain.varTypes Tryz.pinned.checked.prog++Tryz.f5.resultTypes.toList).any (Tryz.pinned.checked.prog.wideKeysFrom ·))=true:=by kernel_rfl
theorem k19:((OpenSpec.ofChange Rows.auditFreshSpec).bare.vars.all (Tryz.pinned.checked.prog.varReadable ·))=true:=by kernel_rfl
theorem k20:(Tryz.f5.resultTypes.all (fun t=>Tryz.pinned.checked.prog.readableRec t && decide (t<Tryz.pinned.checked.prog.types.size)))=true:=by kernel_rfl
theorem k21:(Rows.auditFreshRow.ifacesOut==Tryz.f5.resultTypes.toList.any (Tryz.pinned.checked.prog.ifacesRec ·))=true:=by kernel_rfl
theorem k22:(Rows.auditFreshRow.loopsOut==Tryz.f5.resultTypes.toList.any (Tryz.pinned.checked.prog.loopsFrom ·))=true:=by kernel_rfl
theorem k23:(Rows.auditFreshRow.plainKeys==Tryz.pinned.checked.prog.plainKeys)=true:=by kernel_rfl
theorem k24:(Rows.auditFreshRow.shortTexts.isNone)=true:=by kernel_rfl
theorem k25:(Tryz.pinned.checked.prog.stopsHeard)=true:=by kernel_rfl
theorem k26:(Tryz.pinned.checked.prog.mayEnter)=true:=by kernel_rfl
theorem k27:(Rows.auditFreshRow.lifted==Tryz.pinned.checked.prog.liftsFinal)=true:=by kernel_rfl
theorem k28:(Tryz.pinned.checked.prog.make==some Rows.auditFreshRow.make)=true:=by kernel_rfl
theorem k29:(Rows.auditFreshRow.kinds==(if Rows.auditFreshRow.domain.isEmpty then [] else Tryz.f5.params.toList.map fun t=>match Tryz.pinned.checked.prog.underlying t with | some (.int k)=>some k | _=>none))=true:=by kernel_rfl
theorem k30:(Rows.auditFreshRow.pinned==Rows.auditFreshRow.pinnedBy)=true:=by kernel_rfl
theorem k31:(Rows.auditFreshRow.veiled==(Tryz.f5.params.toList++(OpenSpec.ofChange Rows.auditFreshSpec).bare.plain.varTypes Tryz.pinned.checked.prog++Tryz.f5.resultTypes.toList).any (Tryz.pinned.checked.prog.veiledRec ·))=true:=by kernel_rfl
theorem k32:(Rows.auditFreshRow.veiledFits Tryz.pinned.checked.prog Tryz.f5.params.toList (Tryz.f5.params.toList++(OpenSpec.ofChange Rows.auditFreshSpec).bare.plain.varTypes Tryz.pinned.checked.prog++Tryz.f5.resultTypes.toList))=true:=by kernel_rfl
theorem bAnd{a b:Bool}(h:a=true)(k:b=true):(a && b)=true:=by rw[h,k];rfl
end Go.Proofs.YtglmhddbhhcjdaaGreatDoor.auditFresh
namespace Go.Proofs.YtglmhddbhhcjdaaGreatDoor.auditFresh
theorem closed:joinedFacts Tryz.pinned.checked.prog 5 Tryz.f5 (OpenSpec.ofChange Rows.auditFreshSpec).bare Rows.auditFreshRow=true:=by
 unfold joinedFacts;exact bAnd (bAnd (bAnd (bAnd (bAnd (bAnd (bAnd (bAnd (bAnd (bAnd (bAnd (bAnd (bAnd (bAnd (bAnd (bAnd (bAnd (bAnd (bAnd (bAnd (bAnd (bAnd (bAnd (bAnd (bAnd (bAnd (bAnd (bAnd (bAnd (bAnd (bAnd k1 k2) k3) k4) k5) k6) k7) k8) k9) k10) k11) k12) k13) k14) k15) k16) k17) k18) k19) k20) k21) k22) k23) k24) k25) k26) k27) k28) k29) k30) k31) k32
end Go.Proofs.YtglmhddbhhcjdaaGreatDoor.auditFresh
