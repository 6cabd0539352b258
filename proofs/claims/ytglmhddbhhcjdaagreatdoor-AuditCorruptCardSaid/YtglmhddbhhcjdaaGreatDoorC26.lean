/- Laws that the walk of the last text wants. -/
import Derived.Test.YtglmhddbhhcjdaaGreatDoorC16
import Derived.Test.YtglmhddbhhcjdaaGreatDoorC9
import Derived.Test.YtglmhddbhhcjdaaGreatDoorC10
set_option maxRecDepth 100000
set_option linter.unusedSimpArgs false
set_option maxHeartbeats 4000000
namespace Go.Proofs.YtglmhddbhhcjdaaGreatDoor
open Go.RowKit
def putC (w:World) (g:Nat):Nat ->List Value ->World
 | _,[]=>w
 | i,v::r=>putC (w.setCell ⟨g,i,none⟩ v) g (i+1) r
section
variable {w:World} {g B:Nat} {T:TypeId}
theorem Jsx(vs:List Value)(l:List Value):∀ (w:World) (pre:List Value),Bx w g T (pre++l).toArray ->vs.length=l.length ->Bx (putC w g pre.length vs) g T (pre++vs).toArray:=by
 induction vs generalizing l with
 | nil=>
   intro w pre h z;have:l=[]:=qa5 (by simpa using z.symm);subst this;exact h
 | cons v r ih=>
   intro w pre h z;cases l with
   | nil=>simp at z
   | cons u t=>
     have y:=h.set pre.length v
     have e:(pre++u::t).toArray.setIfInBounds pre.length v=((pre++[v])++t).toArray:=by
      apply Array.ext'
      simp
     rw[e] at y;have:=ih t (w.setCell ⟨g,pre.length,none⟩ v) (pre++[v]) y (by simpa using z);rw[qad] at this
     simpa[putC] using this
theorem Jaw{cs:Array Value}(h:Bx w g T cs)(vs:List Value)(hl:vs.length=cs.size):Bx (putC w g 0 vs) g T vs.toArray:=by
 have:=Jsx (g:=g) (T:=T) vs cs.toList w [] (by simpa using h) (by simpa using hl)
 simpa using this
theorem Jaj(vs:List Value)(hB:B<=g):∀ (w:World) (i:Nat),Below B w (putC w g i vs):=by
 induction vs with
 | nil=>intro w i;exact qaa _ _
 | cons v r ih=>
   intro w i;exact((qaa B w).setCell (p:=⟨g,i,none⟩) hB v).trans (ih _ _)
theorem Jcb(vs:List Value):∀ (w:World) (i:Nat),Chg (fun b=>b=g) w (putC w g i vs):=by
 induction vs with
 | nil=>intro w i;exact Chg.refl _ _
 | cons v r ih=>
   intro w i;exact(Chg.set (F:=fun b=>b=g) w ⟨g,i,none⟩ v rfl).trans (ih _ _) (fun _ h=> .inl h)
end
end Go.Proofs.YtglmhddbhhcjdaaGreatDoor
namespace Go.Proofs.YtglmhddbhhcjdaaGreatDoor
def Jqv (l:List UInt8) (n:Nat):List UInt8:=l++zeros (n - l.length)
theorem J0f{l:List UInt8}{n:Nat}(h:l.length<=n):(Jqv l n).length=n:=by simp[Jqv];omega
def agB (a:Ag):List UInt8:=le 8 (u64 a.c)++(le 8 (u64 a.hi)++(le 8 a.lo.toNat++(le 8 (u64 a.mn)++le 8 (u64 a.mx))))
@[simp] theorem Jsy(a:Ag):(agB a).length=40:=by simp[agB]
def rcB (r:Rc):List UInt8:=nmB r.nm.toList++(le 8 (u64 r.st)++agB r.ag)
theorem Ji4{r:Rc}(h:r.nm.toList.length<=15):(rcB r).length=64:=by simp[rcB,Jf3 h]
theorem Jbp{l:List Rc}(h:∀r∈l,r.nm.toList.length<=15):(l.flatMap rcB).length=64*l.length:=by
 induction l with
 | nil=>rfl
 | cons r t ih=>
   rw[qau,qad,Ji4 (h r (by simp)),ih (fun x hx=>h x (by simp[hx])),qa3];omega
def sgM:List UInt8:=[83,69,71,77]
def sgHd (id tier shard place of n:Nat):List UInt8:=sgM++Jqv (le 8 id++(le 1 tier++(le 1 shard++(le 2 place++(le 2 of++le 2 n))))) 44
@[simp] theorem Jff(id tier shard place of n:Nat):(sgHd id tier shard place of n).length=48:=by
 unfold sgHd;rw[qad,J0f (by simp)];rfl
def sgBk (id tier shard place of:Nat) (l:List Rc):List UInt8:=sgHd id tier shard place of l.length++(l.flatMap rcB++zeros (208 - (l.flatMap rcB).length))
theorem J4y{id tier shard place of:Nat}{l:List Rc}(h:∀r∈l,r.nm.toList.length<=15)(hl:l.length<=3):(sgBk id tier shard place of l).length=256:=by
 have:=Jbp h;simp[sgBk,this];omega
open Go.RowKit
theorem J0g{a:Ag}(h:a.Ok):((a.lo.toNat:Nat):Int)=a.lo:=Int.toNat_of_nonneg h.lo.1
theorem J4z(a:Ag)(w:World)(hv:Jbx a=true)(ho:a.Ok):
  Cs 412 #[a.val] w (RB w (.tuple #[(strOf (agB a)),(0:Int)])):=by
 have s:=(qaa w.heap.size w).alloc (qab _) (.cells #[(a.c:Int),(a.hi:Int),.int .u64 a.lo,(a.mn:Int),(a.mx:Int)] 140);have r:=Bx.new w 140 #[(a.c:Int),(a.hi:Int),.int .u64 a.lo,(a.mn:Int),(a.mx:Int)];have l:=zI r;have q:=zI s;have f:=zI (fun W=>Jbi a W);have d:=zI hv;obtain⟨lo,u⟩:=exE a.lo.toNat;have k:=zI (show a.lo=(lo:Int) from by rw[u,J0g ho]);have j:=zI u;clear s r hv ho u;go_enter Tryz.func412,Tryz.ntmps412;go_wp2_with fail
 refine(f.out _).mono ?_;rintro e w2 ⟨rfl,p⟩;rw[d.out];have y:=(qaa (w.alloc (.cells #[(a.c:Int),(a.hi:Int),.int .u64 a.lo,(a.mn:Int),(a.mx:Int)] 140)).heap.size _).alloc (qab _) (.cells #[(a.c:Int),(a.hi:Int),.int .u64 a.lo,(a.mn:Int),(a.mx:Int)] 140);rw[<- p] at y;have z:=zI (l.out.below y);have o:=zI (q.out.trans (y.mono q.out.size));clear p y;have s0:=z.out.at_ 0 (v:= (a.c:Int)) rfl;have s1:=z.out.at_ 1 (v:= (a.hi:Int)) rfl;have i:=z.out.lt;go_wp2_with fail
 refine(LayW.ints0 w2 [a.c,a.hi] 2 2 #[(a.c:Int),(a.hi:Int)] rfl rfl (by omega)).mono ?_;rintro e w3 ⟨rfl,t⟩;have h:=zI t;have s2:=(t.bx z.out).at_ 2 (v:= .int .u64 (lo:Int)) (by rw[<- k.out];rfl);clear t s0 s1 i;go_wp2_with fail
 refine(h.out.words [lo] 1 1 #[.int .u64 (lo:Int)] rfl rfl (by simp)).mono ?_;rintro e w4 ⟨rfl,x⟩;have g:=zI x;have s3:=(x.bx z.out).at_ 3 (v:= (a.mn:Int)) rfl;have s4:=(x.bx z.out).at_ 4 (v:= (a.mx:Int)) rfl;clear x s2;go_wp2_with fail
 refine(g.out.ints [a.mn,a.mx] 2 2 #[(a.mn:Int),(a.mx:Int)] rfl rfl (by simp)).mono ?_;rintro e w5 ⟨rfl,n⟩;have m:=zI n;clear n s3 s4;go_wp2_with fail
 refine m.out.done.mono ?_;rintro e w6 ⟨rfl,b⟩;subst b;have Z:=zI (show[a.c,a.hi].flatMap (fun v=>le 8 (u64 v))++[lo].flatMap (le 8)++[a.mn,a.mx].flatMap (fun v=>le 8 (u64 v))=agB a from by rw[j.out];simp[agB]);have Y:=zI (o.out.trans (m.out.below.mono o.out.size));rw[Z.out];go_wp2_with fail
 go_ret2;exact⟨rfl,Y.out⟩
structure Rc.Fine (r:Rc):Prop where
 ok:r.Ok
 nm:Jae r.nm.toList=true
 st:0<=r.st/\r.st<=1099511627776
 ag:Jbx r.ag=true
theorem Jqw(t:Int)(w:World)(h:0<=t/\t<=1099511627776):Cs 297 #[(t:Int)] w fun e w'=>e= .returned true/\w=w':=by
 have z:decide (0<=t)=true:=qaj h.1;have y:decide (t<=1099511627776)=true:=qaj h.2;go_enter Tryz.func297,Tryz.ntmps297;go_wp2;go_ret;exact⟨rfl,rfl⟩
theorem Jqx(r:Rc)(w:World)(h:r.Fine):Cs 335 #[r.val] w fun e w'=>e= .returned true/\Below w.heap.size w w':=by
 have z:=zI (fun (W:World) (g:Nat) (hg:W.cell? ⟨g,0,none⟩=some (.string r.nm))=>Jbj (some ⟨g,0,none⟩) 1 1 [r.nm] W (by decide) rfl (by simpa using h.ok.nm) (fun _=>⟨g,0,rfl,one_cell hg⟩));rw[show([r.nm].all fun s=>Jae s.toList)=true from by simp[h.nm]] at z;have v:=zI (fun W=>Jqw r.st W h.st);have x:=zI (fun W=>Jbi r.ag W);rw[h.ag] at x;clear h;go_enter Tryz.func335,Tryz.ntmps335;go_wp2_with fail
 refine(z.out _ _ (by simp[go_sem])).mono ?_;rintro e w1 ⟨rfl,y⟩;subst y;go_wp2_with fail
 refine(v.out _).mono ?_;rintro e w2 ⟨rfl,y⟩;subst y;go_wp2_with fail
 refine(x.out _).mono ?_;rintro e w3 ⟨rfl,y⟩;subst y;go_wp2_with fail
 go_ret;exact⟨rfl,by repeat (first | exact qaa _ _ | refine Below.drew ?_ | refine qc8 ?_ (by simp;try omega) _)⟩
theorem Rc.Fine.size{r:Rc}(h:r.Fine):r.nm.size<=15:=by
 have:=h.nm;unfold Jae at this;simp at this;have e:=Jac r.nm;omega
theorem Jmy(r:Rc)(w:World)(h:r.Fine):Cs 389 #[r.val] w (RB w (.tuple #[(strOf (rcB r)),(0:Int)])):=by
 have q:=(qaa w.heap.size w).alloc (qab _) (.cells #[r.nm,(r.st:Int),(r.ag.c:Int),(r.ag.hi:Int),.int .u64 r.ag.lo,(r.ag.mn:Int),(r.ag.mx:Int)] 142);have p:=Bx.new w 142 #[r.nm,(r.st:Int),(r.ag.c:Int),(r.ag.hi:Int),.int .u64 r.ag.lo,(r.ag.mn:Int),(r.ag.mx:Int)];have g:=zI p;have o:=zI q;have a:=zI (fun W=>Jqx r W h);have Z:=zI (fun W=>J4z r.ag W h.ag h.ok.ag.ok);have n:=zI h.size;clear q p h;go_enter Tryz.func389,Tryz.ntmps389;go_wp2_with fail
 refine(a.out _).mono ?_;rintro e w2 ⟨rfl,y⟩;have z:=zI (g.out.below y);have m:=zI (o.out.trans (y.mono o.out.size));clear y;have s2:=z.out.at_ 2 (v:= (r.ag.c:Int)) rfl;have s3:=z.out.at_ 3 (v:= (r.ag.hi:Int)) rfl;have s4:=z.out.at_ 4 (v:= .int .u64 r.ag.lo) rfl;have s5:=z.out.at_ 5 (v:= (r.ag.mn:Int)) rfl;have s6:=z.out.at_ 6 (v:= (r.ag.mx:Int)) rfl;go_wp2_with fail
 refine(Z.out _).mono ?_;rintro e w3 ⟨rfl,x⟩;have u:=zI (z.out.below x);have l:=zI (m.out.trans (x.mono m.out.size));clear x s2 s3 s4 s5 s6;have s0:=u.out.at_ 0 (v:= r.nm) rfl;have f:=u.out.lt;go_wp2_with fail
 refine(LayW.names0 w3 [r.nm] (by simpa using n.out) 1 1 #[r.nm] rfl rfl (by omega)).mono ?_;rintro e w4 ⟨rfl,t⟩;have d:=zI (show LayW w3 w4 w3.heap.size (nmB r.nm.toList) from by simpa using t);have s1:=(t.bx u.out).at_ 1 (v:= (r.st:Int)) rfl;clear t s0 f;have k:=zI (Jf3 (s:=r.nm.toList) (by rw[Jac];exact n.out));go_wp2_with fail
 refine(d.out.ints [r.st] 1 1 #[(r.st:Int)] rfl rfl (by simp[k.out])).mono ?_;rintro e w5 ⟨rfl,j⟩;have i:=zI (show LayW w3 w5 w3.heap.size (nmB r.nm.toList++le 8 (u64 r.st)) from by simpa using j);clear j s1;have b:=zI i.out.done;go_wp2_with fail
 refine b.out.mono ?_;rintro e w6 ⟨rfl,V⟩;subst V;have U:=zI (l.out.trans (i.out.below.mono l.out.size));have T:=zI (show strOf (nmB r.nm.toList++le 8 (u64 r.st))++strOf (agB r.ag)=strOf (rcB r) from by apply Ja7;simp[strOf,rcB]);have S:(strOf (nmB r.nm.toList++le 8 (u64 r.st))).size<=100:=by rw[Jaa,qad,k.out,Ja2];omega
 have R:(strOf (agB r.ag)).size<=100:=by rw[Jaa,Jsy];omega
 generalize strOf (nmB r.nm.toList++le 8 (u64 r.st))=X at*;generalize strOf (agB r.ag)=Y at*;go_wp2_with fail
 rw[T.out];go_ret2;exact⟨rfl,U.out⟩
theorem Jc8(a b:List UInt8):strOf a++strOf b=strOf (a++b):=by apply Ja7;simp[strOf]
theorem Rc.Fine.len{r:Rc}(h:r.Fine):r.nm.toList.length<=15:=by rw[Jac];exact h.size
theorem J0h(A:Option Addr)(n c:Nat)(l:List Rc)(w:World)(h:Rcs w A n l)(hf:∀r∈l,r.Fine)(hn:n<=10000):
  Cs 390 #[.slice A n c] w (RB w (.tuple #[(strOf (l.flatMap rcB)),(0:Int)])):=by
 have g:=zI h.len;have Z:=zI (fun r W (hr:r∈l)=>Jmy r W (hf r hr));have Y:=zI h;have f:=zI hf;clear h hf;go_enter Tryz.func390,Tryz.ntmps390;go_wp2_with fail
 go_loopw [4,11] (fun s i wr=>∃k:Nat,k<=n/\i= .int .i64 (k:Int)/\s= .string (strOf ((l.take k).flatMap rcB))/\Below w.heap.size w wr) (fun _ i _=>n - (intOf i).toNat)
 case atStart=>exact⟨0,qaq _,rfl,rfl,qaa _ _⟩
 case round=>
  obtain⟨k,P,rfl,rfl,y⟩:=hrel;by_cases q:k<n
  · have K:k<l.length:=by rw[g.out];exact q
    have d:=zI (show strOf ((l.take k).flatMap rcB)++strOf (rcB l[k])=strOf ((l.take (k+1)).flatMap rcB) from by
     rw[qam K,qav,Jc8];simp)
    have V:(strOf ((l.take k).flatMap rcB)).size<=1000000:=by
     rw[Jaa,Jbp (fun r hr=>(f.out r (qbi hr)).len),qao];omega
    have U:(strOf (rcB l[k])).size<=1000:=by rw[Jaa,Ji4 (f.out _ (qan K)).len];omega
    have p:=zI (fun W=>Z.out l[k] W (qan K));obtain⟨b,off,rfl,T,R⟩:=(Y.out.below y).get K;obtain⟨s2,z⟩:=exE (strOf ((l.take (k+1)).flatMap rcB));rw[<- z] at d;have o:=zI z;clear z;generalize strOf ((l.take k).flatMap rcB)=s1 at*;generalize l[k]'K=x at*;obtain⟨r0,r1,r2,r3,r4,r5,r6⟩:=R;have v:=(qaa wr.heap.size wr).alloc (qab _) (.cells #[x.nm,(x.st:Int),(x.ag.c:Int),(x.ag.hi:Int),.int .u64 x.ag.lo,(x.ag.mn:Int),(x.ag.mx:Int)] 142);have u:=zI (y.trans (v.mono y.size));clear v y;go_wp2_with fail
    refine(p.out _).mono ?_;rintro e w2 ⟨rfl,t⟩;have m:=zI (u.out.trans (t.mono u.out.size));clear t r0 r1 r2 r3 r4 r5 r6;go_wp2_with fail
    go_roundw
    case rel=>exact⟨k+1,by omega,by go_num,by rw[d.out,o.out],m.out⟩
    case measure=>simp[intOf];omega
  · have j:n=k:=by omega
    have a:=zI (show l.take k=l from qap (by rw[g.out];omega));rw[a.out];have S:=zI y;clear y j a;go_wp2_with fail
    go_ret2;exact⟨rfl,S.out⟩
theorem Jhl(id tier shard:Nat)(w:World)(h0:1<=id)(h1:tier<10)(h2:shard<8):Cs 332 #[.int .u64 (id:Int),(tier:Int),(shard:Int)] w fun e w'=>e= .returned true/\w=w':=by
 have d0:decide ((0:Int)<(id:Int))=true:=qaj (by omega);have d1:decide ((0:Int)<=(tier:Int))=true:=qaj (by omega);have d2:decide ((tier:Int)<10)=true:=qaj (by omega);have d3:decide ((0:Int)<=(shard:Int))=true:=qaj (by omega);have d4:decide ((shard:Int)<8)=true:=qaj (by omega);have d5:decide (0<id)=true:=qaj (by omega);go_enter Tryz.func332,Tryz.ntmps332;go_wp2;go_ret;exact⟨rfl,rfl⟩
theorem Jmz:Jc7 1:=by unfold Jc7;simp
theorem Jji:Jc7 2:=by unfold Jc7;simp
abbrev hdV (id tier shard place of n:Nat):Value:= .agg #[.int .u64 (id:Int),(tier:Int),(shard:Int),(place:Int),(of:Int),(n:Int)]
structure Jws (id tier shard place of n:Nat):Prop where
 id:id<18446744073709551616
 tier:tier<256
 shard:shard<256
 place:place<65536
 of:of<65536
 n:n<65536
theorem Ji5(id tier shard place of n:Nat)(w:World)(h:Jws id tier shard place of n):
  Cs 333 #[hdV id tier shard place of n] w (RB w (strOf (sgHd id tier shard place of n))):=by
 have u:=(qaa w.heap.size w).alloc (qab _) (.cells #[.int .u64 (id:Int),(tier:Int),(shard:Int),(place:Int),(of:Int),(n:Int)] 389);have y:=Bx.new w 389 #[.int .u64 (id:Int),(tier:Int),(shard:Int),(place:Int),(of:Int),(n:Int)];obtain⟨w1,t⟩:=exE (w.alloc (.cells #[.int .u64 (id:Int),(tier:Int),(shard:Int),(place:Int),(of:Int),(n:Int)] 389));rw[<- t] at u y;have o:=zI t;have x:=zI y;have s:=zI u;have r:=zI h;have s0:=y.at_ 0 (v:= .int .u64 (id:Int)) rfl;have m:=y.lt;clear t u y h;go_enter Tryz.func333,Tryz.ntmps333;go_upto_region 1 with fail
 rw[<- o.out];go_wp2_with fail
 refine(LayW.words0 w1 [id] 1 1 #[.int .u64 (id:Int)] rfl rfl (by omega)).mono ?_;rintro e w3 ⟨rfl,z⟩;have k:=zI z;have s1:=(z.bx x.out).at_ 1 (v:= (tier:Int)) rfl;have s2:=(z.bx x.out).at_ 2 (v:= (shard:Int)) rfl;clear z s0 m;go_wp2_with fail
 refine(k.out.small 1 Jmz [tier,shard] (by have:=r.out.tier;have:=r.out.shard;simp;omega) 2 2 #[(tier:Int),(shard:Int)] rfl rfl (by simp)).mono ?_;rintro e w4 ⟨rfl,z⟩;have j:=zI z;have s3:=(z.bx x.out).at_ 3 (v:= (place:Int)) rfl;have s4:=(z.bx x.out).at_ 4 (v:= (of:Int)) rfl;have s5:=(z.bx x.out).at_ 5 (v:= (n:Int)) rfl;clear z s1 s2;go_wp2_with fail
 refine(j.out.small 2 Jji [place,of,n] (by have:=r.out.place;have:=r.out.of;have:=r.out.n;simp;omega) 3 3 #[(place:Int),(of:Int),(n:Int)] rfl rfl (by simp)).mono ?_;rintro e w5 ⟨rfl,z⟩;have i:=zI z;clear z s3 s4 s5;go_wp2_with fail
 refine(i.out.fill 44 (by simp) (by omega)).mono ?_;rintro e w6 ⟨rfl,z⟩;have q:=zI z;clear z;go_wp2_with fail
 refine q.out.done.mono ?_;rintro e w7 ⟨rfl,d⟩;subst d;have p:∀l:List UInt8,l.length<=100 ->(strOf l).size<=100:=fun l h=>by rw[Jaa];exact h
 have f:sgM++([id].flatMap (le 8)++[tier,shard].flatMap (le 1)++[place,of,n].flatMap (le 2)++zeros (44 - ([id].flatMap (le 8)++[tier,shard].flatMap (le 1)++[place,of,n].flatMap (le 2)).length))=sgHd id tier shard place of n:=by simp[sgHd,Jqv]
 have b:=p ([id].flatMap (le 8)++[tier,shard].flatMap (le 1)++[place,of,n].flatMap (le 2)++zeros (44 - ([id].flatMap (le 8)++[tier,shard].flatMap (le 1)++[place,of,n].flatMap (le 2)).length)) (by simp);generalize [id].flatMap (le 8)++[tier,shard].flatMap (le 1)++[place,of,n].flatMap (le 2)++zeros (44 - ([id].flatMap (le 8)++[tier,shard].flatMap (le 1)++[place,of,n].flatMap (le 2)).length)=X at*;have g:=zI (show(⟨#[83,69,71,77]⟩:ByteArray)++strOf X=strOf (sgHd id tier shard place of n) from by rw[<- f];apply Ja7;simp[strOf,sgM]);have c:=zI (s.out.trans (q.out.below.mono s.out.size));clear f p;go_wp2_with fail
 rw[g.out];go_ret;exact⟨rfl,c.out⟩
theorem Jwt(id tier shard place of n:Nat)(A:Option Addr)(c:Nat)(l:List Rc)(w:World)(h:Jws id tier shard place of n)(hr:Rcs w A n l)(hf:∀r∈l,r.Fine)(hn:n<=3):
  Cs 337 #[hdV id tier shard place of n,.slice A n c] w (RB w (strOf (sgBk id tier shard place of l))):=by
 have y:=(qaa w.heap.size w).alloc (qab _) (.cells #[.int .u64 (id:Int),(tier:Int),(shard:Int),(place:Int),(of:Int),(n:Int)] 389);have u:=Bx.new w 389 #[.int .u64 (id:Int),(tier:Int),(shard:Int),(place:Int),(of:Int),(n:Int)];have j:=zI u;have t:=zI y;have a:=zI (fun W=>Ji5 id tier shard place of n W h);have V:=zI (J0h A n c l _ (hr.below y) hf (by omega));have s:=zI (show l.length=n from hr.len);have q:=zI (Jbp (l:=l) fun r hr=>(hf r hr).len);clear y u h hr hf;go_enter Tryz.func337,Tryz.ntmps337;go_wp2_with fail
 refine V.out.mono ?_;rintro e w2 ⟨rfl,x⟩;have i:=zI (j.out.below x);have p:=zI (t.out.trans (x.mono t.out.size));have U:(strOf (l.flatMap rcB)).size=64*n:=by rw[Jaa,q.out,s.out]
 have g:=zI (show sgBk id tier shard place of l=sgHd id tier shard place of n++(l.flatMap rcB++zeros (208 - 64*n)) from by unfold sgBk;rw[q.out,s.out]);have f:=zI (show(208:Int) - 64*(n:Int)=((208 - 64*n:Nat):Int) from by omega);generalize l.flatMap rcB=X at*;have T:=zI (LayW.fill0 w2 (208 - 64*n) (by omega));have S:(64*n:Nat)<=192:=by omega
 clear x;go_wp2_with fail
 rw[f.out];refine T.out.mono ?_;rintro e w3 ⟨rfl,k⟩;have R:=zI k.done;have z:=zI (k.bx i.out);have o:=zI (p.out.trans (k.below.mono p.out.size));have s0:=z.out.at_ 0 (v:= .int .u64 (id:Int)) rfl;have s1:=z.out.at_ 1 (v:= (tier:Int)) rfl;have s2:=z.out.at_ 2 (v:= (shard:Int)) rfl;have s3:=z.out.at_ 3 (v:= (place:Int)) rfl;have s4:=z.out.at_ 4 (v:= (of:Int)) rfl;have s5:=z.out.at_ 5 (v:= (n:Int)) rfl;clear k;go_wp2_with fail
 refine R.out.mono ?_;rintro e w4 ⟨rfl,P⟩;subst P;have O:=zI (a.out w3);go_wp2_with fail
 refine O.out.mono ?_;rintro e w5 ⟨rfl,m⟩;have N:=zI (o.out.trans (m.mono o.out.size));have d:(strOf (sgHd id tier shard place of n)).size<=1000:=by rw[Jaa,Jff];omega
 have b:(strOf X).size<=1000:=by omega
 have M:(strOf (zeros (208 - 64*n))).size<=1000:=by rw[Jaa,Jbr];omega
 have L:(strOf (sgHd id tier shard place of n)++strOf X).size<=2000:=by rw[Jc8,Jaa,qad];rw[Jaa] at d b;omega
 have K:=zI (show strOf (sgHd id tier shard place of n)++strOf X++strOf (zeros (208 - 64*n))=strOf (sgBk id tier shard place of l) from by rw[Jc8,Jc8,g.out,qas]);generalize strOf (zeros (208 - 64*n))=Z at*;generalize strOf (sgHd id tier shard place of n)=H at*;generalize strOf X=Y at*;clear m s0 s1 s2 s3 s4 s5;go_wp2_with fail
 rw[K.out];go_ret;exact⟨rfl,N.out⟩
theorem J40(a:Ag)(w:World)(hv:Jbx a=true)(ho:a.Ok):
  Cs 388 #[(strOf (agB a))] w (RB w (.tuple #[a.val,(0:Int)])):=by
 have J:=zI (fun W=>Jbi a W);have I:=zI hv;obtain⟨lo,r⟩:=exE a.lo.toNat;have h:=zI (show a.lo=(lo:Int) from by rw[r,J0g ho]);have f:=zI (show lo<18446744073709551616 from by have:=ho.lo;omega);have d:=zI r;have t:=zI ho;have H:(strOf (agB a)).size=40:=by rw[Jaa,Jsy]
 have q:=(qaa w.heap.size w).alloc (qab _) (.cells #[(0:Int),(0:Int),.int .u64 0,(0:Int),(0:Int)] 140);have p:=Bx.new w 140 #[(0:Int),(0:Int),.int .u64 0,(0:Int),(0:Int)];obtain⟨w1,o⟩:=exE (w.alloc (.cells #[(0:Int),(0:Int),.int .u64 0,(0:Int),(0:Int)] 140));rw[<- o] at q p;have b:=zI o;have Z:=zI p;have l:=zI q;have G:=zI (ReadW.from_ w1 (qaa _ w1) (agB a) (by simp));generalize strOf (agB a)=S at*;clear hv ho r o q p;go_enter Tryz.func388,Tryz.ntmps388;go_upto_region 1 with fail
 rw[<- b.out];go_wp2_with fail
 refine G.out.mono ?_;rintro e w2 ⟨g,rfl,y⟩;have F:=zI (show ReadW w1 w2 g (le 8 (u64 a.c)++(le 8 (u64 a.hi)++(le 8 lo++(le 8 (u64 a.mn)++(le 8 (u64 a.mx)++[]))))) from by rw[d.out];simpa[agB] using y);clear y;have Y:=zI (ReadW.int a.c _ F.out t.out.c (by simp));go_wp2_with fail
 refine Y.out.mono ?_;rintro e w3 ⟨rfl,y⟩;have V:=zI y;clear y;have U:=zI (ReadW.int a.hi _ V.out t.out.hi (by simp));go_wp2_with fail
 refine U.out.mono ?_;rintro e w4 ⟨rfl,y⟩;have T:=zI y;clear y;have R:=zI (ReadW.word lo _ T.out f.out (by simp));go_wp2_with fail
 refine R.out.mono ?_;rintro e w5 ⟨rfl,y⟩;have P:=zI y;clear y;have O:=zI (ReadW.int a.mn _ P.out t.out.mn (by simp));go_wp2_with fail
 refine O.out.mono ?_;rintro e w6 ⟨rfl,y⟩;have N:=zI y;clear y;have M:=zI (ReadW.int a.mx _ N.out t.out.mx (by simp));go_wp2_with fail
 refine M.out.mono ?_;rintro e w7 ⟨rfl,y⟩;have L:=zI (Z.out.below y.below);have k:=zI (l.out.trans (y.below.mono l.out.size));clear y;rw[<- h.out];go_wp2_with fail
 refine(J.out _).mono ?_;rintro e w8 ⟨rfl,j⟩;rw[I.out];have n:=(qaa w7.heap.size w7).alloc (qab _) (.cells #[(a.c:Int),(a.hi:Int),.int .u64 a.lo,(a.mn:Int),(a.mx:Int)] 140);have s:=n.alloc n.size (.cells #[(a.c:Int),(a.hi:Int),.int .u64 a.lo,(a.mn:Int),(a.mx:Int)] 140);have x:=(Bx.new w7 140 #[(a.c:Int),(a.hi:Int),.int .u64 a.lo,(a.mn:Int),(a.mx:Int)]).alloc (.cells #[(a.c:Int),(a.hi:Int),.int .u64 a.lo,(a.mn:Int),(a.mx:Int)] 140);rw[<- j] at s x;have z:=zI (L.out.below s);have K:=zI (k.out.trans (s.mono k.out.size));have s0:=x.at_ 0 (v:= (a.c:Int)) rfl;have s1:=x.at_ 1 (v:= (a.hi:Int)) rfl;have s2:=x.at_ 2 (v:= .int .u64 a.lo) rfl;have s3:=x.at_ 3 (v:= (a.mn:Int)) rfl;have s4:=x.at_ 4 (v:= (a.mx:Int)) rfl;have r0:=z.out.at_ 0 rfl;have r1:=z.out.at_ 1 rfl;have r2:=z.out.at_ 2 rfl;have r3:=z.out.at_ 3 rfl;have r4:=z.out.at_ 4 rfl;have f0:=z.out.free 0;have f1:=z.out.free 1;have f2:=z.out.free 2;have f3:=z.out.free 3;have f4:=z.out.free 4;clear n s x j;go_wp2_with fail
 obtain⟨w9,m⟩:=exE (putC w8 w.heap.size 0 [(a.c:Int),(a.hi:Int),.int .u64 a.lo,(a.mn:Int),(a.mx:Int)]);have u:=Jaw z.out [(a.c:Int),(a.hi:Int),.int .u64 a.lo,(a.mn:Int),(a.mx:Int)] rfl;have i:=Jaj (B:=w.heap.size) [(a.c:Int),(a.hi:Int),.int .u64 a.lo,(a.mn:Int),(a.mx:Int)] (qab _) w8 0;rw[<- m] at u i;simp only[putC,qa7,Nat.reduceAdd] at m;rw[<- m];have q0:=u.at_ 0 rfl;have q1:=u.at_ 1 rfl;have q2:=u.at_ 2 rfl;have q3:=u.at_ 3 rfl;have q4:=u.at_ 4 rfl;exact qa6 (v:= .tuple #[a.val,(0:Int)]) (by simp[results,Tryz.results388,go_sem,q0,q1,q2,q3,q4]) rfl ⟨rfl,K.out.trans i⟩
theorem Jif(s:ByteArray):strOf s.toList=s:=by apply Ja7;simp[strOf,qaw]
theorem Jm0(r:Rc)(w:World)(h:r.Fine):Cs 334 #[(strOf (rcB r))] w (RB w (.tuple #[r.val,(0:Int)])):=by
 have HP:=zI (fun W=>Jmy r W h);have HA:=zI (fun W=>J40 r.ag W h.ag h.ok.ag.ok);have L:=zI h.len;have K:=zI (Ji4 h.len);have J:=zI h.st;have I:=zI (Jif r.nm);have m:=(qaa w.heap.size w).alloc (qab _) (.cells #[.string ⟨#[]⟩,(0:Int),(0:Int),(0:Int),.int .u64 0,(0:Int),(0:Int)] 142);have l:=Bx.new w 142 #[.string ⟨#[]⟩,(0:Int),(0:Int),(0:Int),.int .u64 0,(0:Int),(0:Int)];obtain⟨w1,k⟩:=exE (w.alloc (.cells #[.string ⟨#[]⟩,(0:Int),(0:Int),(0:Int),.int .u64 0,(0:Int),(0:Int)] 142));rw[<- k] at m l;have H:=zI k;have b:=zI l;have j:=zI m;clear k m l;have HF:=zI (ReadW.from_ w1 (qaa _ w1) (rcB r) (by rw[K.out];omega));obtain⟨S,hS⟩:=exE (strOf (rcB r));rw[<- hS] at HP HF ⊢;clear h hS;go_enter Tryz.func334,Tryz.ntmps334;go_upto_region 1 with fail
 rw[<- H.out];go_wp2_with fail
 refine HF.out.mono ?_;rintro e w2 ⟨g,rfl,s⟩;have a:=zI (ReadW.name r.nm.toList _ (show ReadW w1 w2 g (nmB r.nm.toList++(le 8 (u64 r.st)++agB r.ag)) from s) L.out (by simp));rw[I.out] at a;clear s;go_wp2_with fail
 refine a.out.mono ?_;rintro e w3 ⟨rfl,s⟩;have G:=zI (ReadW.int r.st _ s (by have:=J.out;omega) (by simp));clear s;go_wp2_with fail
 refine G.out.mono ?_;rintro e w4 ⟨rfl,s⟩;have n:=(qaa w4.heap.size w4).alloc (qab _) (.cells #[r.nm,(r.st:Int),(0:Int),(0:Int),.int .u64 0,(0:Int),(0:Int)] 142);have F:=zI (Bx.new w4 142 #[r.nm,(r.st:Int),(0:Int),(0:Int),.int .u64 0,(0:Int),(0:Int)]);have Z:=zI (s.then_below n);have E:=zI (Juk g (agB r.ag) _ Z.out.at_ (by simp));have Y:=zI s.below.size;have D:=zI (show some w4.heap.size≠some g from fun e=>by cases e;have:=s.at_.bx.lt;omega);clear s n;go_wp2_with fail
 refine E.out.mono ?_;rintro e w5 ⟨rfl,hu,C⟩;have s:=Z.out.grown hu C;have A:=zI (b.out.below s.below);have V:=zI (j.out.trans (s.below.mono j.out.size));have hJ:=zI (F.out.grown C D.out);have Ha:=zI (HA.out w5);clear s hu C;go_wp2_with fail
 refine Ha.out.mono ?_;rintro e w6 ⟨rfl,q⟩;have Hb:=zI (A.out.below q);have U:=zI (V.out.trans (q.mono V.out.size));have y:=hJ.out.below q;have Hc:=zI y;have c2:=y.at_ 2 rfl;have c3:=y.at_ 3 rfl;have c4:=y.at_ 4 rfl;have c5:=y.at_ 5 rfl;have c6:=y.at_ 6 rfl;have f2:=y.free 2;have f3:=y.free 3;have f4:=y.free 4;have f5:=y.free 5;have f6:=y.free 6;have Hd:=y.lt;have i:=Jaj (B:=w.heap.size) [(r.ag.c:Int),(r.ag.hi:Int),.int .u64 r.ag.lo,(r.ag.mn:Int),(r.ag.mx:Int)] (g:=w4.heap.size) (qax j.out.size Y.out) w6 2;have R:=Jcb (g:=w4.heap.size) [(r.ag.c:Int),(r.ag.hi:Int),.int .u64 r.ag.lo,(r.ag.mn:Int),(r.ag.mx:Int)] w6 2;have P:=Jsx (g:=w4.heap.size) (T:=142) [(r.ag.c:Int),(r.ag.hi:Int),.int .u64 r.ag.lo,(r.ag.mn:Int),(r.ag.mx:Int)] [(0:Int),(0:Int),.int .u64 0,(0:Int),(0:Int)] w6 [r.nm,(r.st:Int)] Hc.out rfl;have O:=Hb.out.chg R (by have:=b.out.lt;have:=Y.out;omega);obtain⟨w7,p⟩:=exE ((putC w6 w4.heap.size 2 [(r.ag.c:Int),(r.ag.hi:Int),.int .u64 r.ag.lo,(r.ag.mn:Int),(r.ag.mx:Int)]).alloc (.cells #[(r.ag.c:Int),(r.ag.hi:Int),.int .u64 r.ag.lo,(r.ag.mn:Int),(r.ag.mx:Int)] 140));have N:=zI (O.alloc (.cells #[(r.ag.c:Int),(r.ag.hi:Int),.int .u64 r.ag.lo,(r.ag.mn:Int),(r.ag.mx:Int)] 140));have x:=zI (show Bx _ w4.heap.size 142 #[r.nm,(r.st:Int),(r.ag.c:Int),(r.ag.hi:Int),.int .u64 r.ag.lo,(r.ag.mn:Int),(r.ag.mx:Int)] from P.alloc (.cells #[(r.ag.c:Int),(r.ag.hi:Int),.int .u64 r.ag.lo,(r.ag.mn:Int),(r.ag.mx:Int)] 140));have f:=zI ((U.out.trans i).alloc (U.out.trans i).size (.cells #[(r.ag.c:Int),(r.ag.hi:Int),.int .u64 r.ag.lo,(r.ag.mn:Int),(r.ag.mx:Int)] 140));rw[show([Value.string r.nm,Value.int .i64 r.st]:List Value).length=2 from rfl] at x;rw[<- p] at N x f;simp only[putC,Nat.reduceAdd] at p;have He:=zI p;clear q y i R P O p;go_upto_region 5 with fail
 rw[<- He.out];have s0:=x.out.at_ 0 (v:= r.nm) rfl;have s1:=x.out.at_ 1 (v:= (r.st:Int)) rfl;have s2:=x.out.at_ 2 (v:= (r.ag.c:Int)) rfl;have s3:=x.out.at_ 3 (v:= (r.ag.hi:Int)) rfl;have s4:=x.out.at_ 4 (v:= .int .u64 r.ag.lo) rfl;have s5:=x.out.at_ 5 (v:= (r.ag.mn:Int)) rfl;have s6:=x.out.at_ 6 (v:= (r.ag.mx:Int)) rfl;have Hf:=zI (HP.out w7);clear c2 c3 c4 c5 c6 f2 f3 f4 f5 f6 Hd;go_wp2_with fail
 refine Hf.out.mono ?_;rintro e w8 ⟨rfl,o⟩;have z:=zI (N.out.below o);have t:=zI (x.out.below o);have Hg:=zI (f.out.trans (o.mono f.out.size));clear s0 s1 s2 s3 s4 s5 s6 o;have s0:=t.out.at_ 0 (v:= r.nm) rfl;have s1:=t.out.at_ 1 (v:= (r.st:Int)) rfl;have s2:=t.out.at_ 2 (v:= (r.ag.c:Int)) rfl;have s3:=t.out.at_ 3 (v:= (r.ag.hi:Int)) rfl;have s4:=t.out.at_ 4 (v:= .int .u64 r.ag.lo) rfl;have s5:=t.out.at_ 5 (v:= (r.ag.mn:Int)) rfl;have s6:=t.out.at_ 6 (v:= (r.ag.mx:Int)) rfl;have r0:=z.out.at_ 0 rfl;have r1:=z.out.at_ 1 rfl;have r2:=z.out.at_ 2 rfl;have r3:=z.out.at_ 3 rfl;have r4:=z.out.at_ 4 rfl;have r5:=z.out.at_ 5 rfl;have r6:=z.out.at_ 6 rfl;have f0:=z.out.free 0;have f1:=z.out.free 1;have f2:=z.out.free 2;have f3:=z.out.free 3;have f4:=z.out.free 4;have f5:=z.out.free 5;have f6:=z.out.free 6;go_wp2_with fail
 obtain⟨w9,d⟩:=exE (putC w8 w.heap.size 0 [r.nm,(r.st:Int),(r.ag.c:Int),(r.ag.hi:Int),.int .u64 r.ag.lo,(r.ag.mn:Int),(r.ag.mx:Int)]);have u:=Jaw z.out [r.nm,(r.st:Int),(r.ag.c:Int),(r.ag.hi:Int),.int .u64 r.ag.lo,(r.ag.mn:Int),(r.ag.mx:Int)] rfl;have M:=Jaj (B:=w.heap.size) [r.nm,(r.st:Int),(r.ag.c:Int),(r.ag.hi:Int),.int .u64 r.ag.lo,(r.ag.mn:Int),(r.ag.mx:Int)] (qab _) w8 0;rw[<- d] at u M;simp only[putC,qa7,Nat.reduceAdd] at d;rw[<- d];have q0:=u.at_ 0 rfl;have q1:=u.at_ 1 rfl;have q2:=u.at_ 2 rfl;have q3:=u.at_ 3 rfl;have q4:=u.at_ 4 rfl;have q5:=u.at_ 5 rfl;have q6:=u.at_ 6 rfl;exact qa6 (v:= .tuple #[r.val,(0:Int)]) (by simp[results,Tryz.results334,go_sem,q0,q1,q2,q3,q4,q5,q6]) rfl ⟨rfl,Hg.out.trans M⟩
theorem Jc9(a b r:List UInt8):(strOf (a++(b++r))).extract a.length (a.length+b.length)=strOf b:=by
 apply Ja7;simp[strOf,qcq,List.extract]
theorem Ju0(r:Rc):∀u∈r.cells,u.oneCell'=true:=by
 intro u z;simp[Rc.cells,Ag.cells] at z;rcases z with rfl | rfl | rfl | rfl | rfl | rfl | rfl<;>rfl
theorem J8a{l:List Rc}(hf:∀r∈l,r.Fine){k:Nat}(hk:k<l.length):(strOf (l.flatMap rcB)).extract (64*k) (64*k+64)=strOf (rcB l[k]):=by
 have e:l.flatMap rcB=(l.take k).flatMap rcB++(rcB l[k]++(l.drop (k+1)).flatMap rcB):=by
  conv=>lhs;rw[<- qa8 k l]
  rw[qav,qbm hk,qau]
 have z:((l.take k).flatMap rcB).length=64*k:=by
  rw[Jbp (fun r hr=>(hf r (qbi hr)).len),qao];omega
 have y:(rcB l[k]).length=64:=Ji4 (hf _ (qan hk)).len;have:=Jc9 ((l.take k).flatMap rcB) (rcB l[k]) ((l.drop (k+1)).flatMap rcB);rw[z,y,<- e] at this;exact this
theorem Jqy(l:List Rc)(w:World)(hf:∀r∈l,r.Fine)(hn:l.length<=10000):
  Cs 282 #[(strOf (l.flatMap rcB))] w fun e w'=>∃v,e= .returned (.tuple #[v,(0:Int)])/\w'.ownsRow w.heap.size 142 7 v l.length (l.flatMap Rc.cells)/\Below w.heap.size w w':=by
 have O:=zI (fun k (T:k<l.length)=>J8a hf T);have N:=zI (fun r (hr:r∈l) W=>Jm0 r W (hf r hr));obtain⟨L,m⟩:=exE l.length;have R:=zI m;have M:(strOf (l.flatMap rcB)).size=64*L:=by rw[Jaa,Jbp (fun r hr=>(hf r hr).len),m]
 have J:L<=10000:=by omega
 have P:((64*(L:Int)) % 64)=0:=by omega
 generalize strOf (l.flatMap rcB)=S at*;rw[<- m];clear hf hn m;go_enter Tryz.func282,Tryz.ntmps282;go_wp2_with fail
 go_loopw [4,5] (fun v i wr=>∃k:Nat,k<=L/\i= .int .i64 ((64*k:Nat):Int)/\wr.ownsRow w.heap.size 142 7 v k ((l.take k).flatMap Rc.cells)/\Below w.heap.size w wr) (fun _ i _=>64*L - (intOf i).toNat)
 case atStart=>exact⟨0,qaq _,rfl,qaz _ _ _ _,qaa _ _⟩
 case round=>
  obtain⟨k,T,rfl,z,j⟩:=hrel;by_cases f:k<L
  · have K:k<l.length:=by rw[<- R.out];exact f
    have I:=O.out k K;have d:=zI (N.out l[k] (qan K) wr)
    have h:=zI (show(l.take k).flatMap Rc.cells++l[k].cells=(l.take (k+1)).flatMap Rc.cells from by
     rw[qam K,qav];simp)
    have b:=zI (Ju0 l[k]);have a:=zI z;have g:=zI j;generalize l[k]'K=x at*;clear z j;have H:64*k<64*L:=(by omega);go_wp2_with fail
    rw[I];refine d.out.mono ?_;rintro e w2 ⟨rfl,y⟩;have u:=y.alloc y.size (.cells #[x.nm,(x.st:Int),(x.ag.c:Int),(x.ag.hi:Int),.int .u64 x.ag.lo,(x.ag.mn:Int),(x.ag.mx:Int)] 142);have t:=u.alloc u.size (.cells #[x.nm,(x.st:Int),(x.ag.c:Int),(x.ag.hi:Int),.int .u64 x.ag.lo,(x.ag.mn:Int),(x.ag.mx:Int)] 142);have q:=Sl.new (w2.alloc (.cells #[x.nm,(x.st:Int),(x.ag.c:Int),(x.ag.hi:Int),.int .u64 x.ag.lo,(x.ag.mn:Int),(x.ag.mx:Int)] 142)) 142 (w2.heap.size+1) x.cells #[x.nm,(x.st:Int),(x.ag.c:Int),(x.ag.hi:Int),.int .u64 x.ag.lo,(x.ag.mn:Int),(x.ag.mx:Int)] (by simp) rfl;have p:=g.out.trans (t.mono g.out.size);have o:=zI (Jaf a.out t);have s:=zI p;have Z:=zI q;have G:=zI (show k+1<=1000000 from by omega);clear y u t q p;go_wp2_with (at_builtin;refine Jt1 rfl _ _ rfl o.out rfl (some ⟨w2.heap.size+1,0,none⟩) 1 1 x.cells rfl rfl Z.out b.out G.out s.out.size ?_;intro A' c' w5 n Y)
    have V:=Jbd o.out Y s.out s.out.size;rw[h.out] at n;go_roundw
    case rel=>exact⟨k+1,by omega,by go_num,n,V⟩
    case measure=>simp[intOf];omega
  · have U:L=k:=by omega
    subst U;have h:=zI (show l.take L=l from qap (by rw[<- R.out];exact qab _));rw[h.out] at z;have a:=zI z;have g:=zI j;obtain⟨A,c,rfl,_⟩:=Jao z;clear z j h;go_wp2_with fail
    go_ret2;exact⟨_,rfl,a.out,g.out⟩
