/-
  Several texts in one: Cata, Catb, Catd.
-/
import Derived.Test.YtglmhddbhhcjdaaGreatDoorV25
import Derived.Test.YtglmhddbhhcjdaaGreatDoorV17
set_option maxRecDepth 100000
set_option linter.unusedSimpArgs false
set_option maxHeartbeats 4000000
namespace Go.Proofs.YtglmhddbhhcjdaaGreatDoor
open Go.RowKit
abbrev Ja0 (g i:Nat) (now:Int) (nm:ByteArray) (A:Option Addr) (n c:Nat) (B:Option Addr) (c2:Nat) (E:Option Addr) (en ec:Nat):Array Value:=
 #[.int .u64 (g:Int),.int .u64 (i:Int),(now:Int),nm,.slice A n c,.slice B n c2,ByteArray.empty,.slice none 0 0,.slice none 0 0,(0:Int),(0:Int),.slice E en ec]
theorem Jbk{w:World}{b g i:Nat}{now:Int}{nm:ByteArray}{A:Option Addr}{n c:Nat}{B:Option Addr}{c2:Nat}{E:Option Addr}{en ec:Nat}(h:Bx w b 207 (Ja0 g i now nm A n c B c2 E en ec)):
  w.cell? ⟨b,0,none⟩=some (.int .u64 (g:Int))/\w.cell? ⟨b,1,none⟩=some (.int .u64 (i:Int))/\w.cell? ⟨b,2,none⟩=some (.int .i64 now)/\w.cell? ⟨b,3,none⟩=some (.string nm)/\w.cell? ⟨b,4,none⟩=some (.slice A n c)/\w.cell? ⟨b,5,none⟩=some (.slice B n c2)/\
   w.cell? ⟨b,6,none⟩=some (.string ByteArray.empty)/\w.cell? ⟨b,7,none⟩=some (.slice none 0 0)/\w.cell? ⟨b,8,none⟩=some (.slice none 0 0)/\w.cell? ⟨b,9,none⟩=some (.int .i64 0)/\w.cell? ⟨b,10,none⟩=some (.int .i64 0)/\w.cell? ⟨b,11,none⟩=some (.slice E en ec):=
 ⟨h.at_ 0 rfl,h.at_ 1 rfl,h.at_ 2 rfl,h.at_ 3 rfl,h.at_ 4 rfl,h.at_ 5 rfl,h.at_ 6 rfl,h.at_ 7 rfl,h.at_ 8 rfl,h.at_ 9 rfl,h.at_ 10 rfl,h.at_ 11 rfl⟩
theorem Jdj(n m:Int)(w:World)(h:0<=n/\n<=m):Cs 409 #[(n:Int),(m:Int)] w fun e w'=>e= .returned true/\w=w':=by
 have d1:decide ((0:Int)<=n)=true:=qan h.1;have d2:decide (n<=m)=true:=qan h.2;go_enter Tryz.func409,Tryz.ntmps409;go_wp2;go_ret;exact⟨rfl,rfl⟩
theorem Jzd(nm:ByteArray)(A:Option Addr)(n c:Nat)(ts:List Ti)(w:World)(hnm:nm.size<=maxLen)(h:Tis w A n ts)(hc:n<=c)(hck:Py.checkR nm.toList ts=(0,0)):
  Cs 410 #[polV nm A n c] w fun e w'=>e= .returned true/\Below w.heap.size w w':=by
 have z:Below w.heap.size w (w.alloc (.cells #[nm,.slice A n c] 101)):=(qaa _ w).alloc (qab _) _;have u:=zI (Py.check_any nm A n c ts _ hnm (h.below z) hc);rw[hck] at u;have y:=zI z;clear h z hck;go_enter Tryz.func410,Tryz.ntmps410;go_wp2_with fail
 refine u.out.mono ?_;rintro e w1 ⟨rfl,x⟩;have v:=zI (y.out.trans (x.mono y.out.size));clear x;go_wp2_with fail
 go_ret;exact⟨rfl,v.out⟩
section
variable (g i:Nat) (now:Int) (nm:ByteArray) (A:Option Addr) (n c:Nat) (B:Option Addr) (c2:Nat) (E:Option Addr) (en ec:Nat)
theorem Jub(w:World):Cs 329 #[.agg (Ja0 g i now nm A n c B c2 E en ec)] w fun e w'=>e= .returned false/\Below w.heap.size w w':=by
 have z:Below w.heap.size w (w.alloc (.cells (Ja0 g i now nm A n c B c2 E en ec) 207)):=(qaa _ w).alloc (qab _) _;have y:=zI z;clear z;go_enter Tryz.func329,Tryz.ntmps329;go_wp2_with fail
 go_ret;exact⟨rfl,y.out⟩
theorem Jv5(w:World):Cs 384 #[.agg (Ja0 g i now nm A n c B c2 E en ec)] w fun e w'=>e= .returned true/\Below w.heap.size w w':=by
 have x:Below w.heap.size w (w.alloc (.cells (Ja0 g i now nm A n c B c2 E en ec) 207)):=(qaa _ w).alloc (qab _) _;have b0:=Bx.new w 207 (Ja0 g i now nm A n c B c2 E en ec);have u:=zI x;have t:=zI b0;clear x b0;go_enter Tryz.func384,Tryz.ntmps384;go_wp2_with fail
 refine(Jub g i now nm A n c B c2 E en ec _).mono ?_;rintro e w1 ⟨rfl,z⟩;have y:=zI (t.out.below z);have s:=zI (u.out.trans (z.mono u.out.size));have x6:=y.out.at_ 8 (v:= .slice none 0 0) rfl;have x7:=y.out.at_ 9 (v:= (0:Int)) rfl;have x8:=y.out.at_ 10 (v:= (0:Int)) rfl;clear z;go_wp2_with fail
 go_ret;exact⟨rfl,s.out⟩
theorem Jze(ts:List Ti)(fl:List Int)(w:World)(hg:1<=g)(hnow:0<=now/\now<=1099511627776)(hnm:nm.size<=maxLen)(h:Tis w A n ts)(hc:n<=c)(hck:Py.checkR nm.toList ts=(0,0))(hB:Ints w .i64 B n fl)(hfl:∀f∈fl,0<=f/\f<=4611686018427387904):
  Cs 383 #[.agg (Ja0 g i now nm A n c B c2 E en ec)] w fun e w'=>e= .returned true/\Below w.heap.size w w':=by
 have z:Below w.heap.size w (w.alloc (.cells (Ja0 g i now nm A n c B c2 E en ec) 207)):=(qaa _ w).alloc (qab _) _;have b0:=Bx.new w 207 (Ja0 g i now nm A n c B c2 E en ec);have p:=zI (Jzd nm A n c ts _ hnm (h.below z) hc hck);have o:=zI (hB.below z);have m:=zI hfl;have l:=zI hB.len;have d:=zI (Jdj now 1099511627776);have a:=h.n_le;unfold maxLen at a;have d0:((g:Int)==0)=false:=by rw[qaw];omega
 have Z:=zI b0;have u:=zI z;clear b0 z h hB hck hfl;go_enter Tryz.func383,Tryz.ntmps383;go_wp2_with fail
 refine(d.out _ hnow).mono ?_;rintro e w1 ⟨rfl,t⟩;subst t;go_wp2_with fail
 refine p.out.mono ?_;rintro e w1 ⟨rfl,y⟩;have x:=zI (Z.out.below y);have s:=zI (o.out.below y);have r:=zI (u.out.trans (y.mono u.out.size));have x4:=x.out.at_ 4 (v:= .slice A n c) rfl;have x5:=x.out.at_ 5 (v:= .slice B n c2) rfl;clear y;go_wp2_with fail
 obtain⟨wo,q⟩:=exE w1;rw[<- q] at x s r ⊢;clear x4 x5 q;go_loopw [33] (fun j wr=>∃k:Nat,k<=n/\j= .int .i64 (k:Int)/\wo=wr) (fun j _=>n - (intOf j).toNat)
 case atStart=>exact⟨0,qaq _,rfl,rfl⟩
 case round=>
  obtain⟨k,S,rfl,t⟩:=hrel;subst t;by_cases Y:k<n
  · have K:k<fl.length:=by rw[l.out];exact Y
    obtain⟨b,off,rfl,V,U⟩:=s.out.get K;have W:=zI (Jdj fl[k] 4611686018427387904 wo (m.out _ (qal K)));generalize fl[k]'K=f at*;go_wp2_with fail
    refine W.out.mono ?_;rintro e w2 ⟨rfl,t⟩;subst t;go_wp2_with fail
    go_roundw
    case rel=>exact⟨k+1,by omega,by go_num,trivial⟩
    case measure=>simp[intOf];omega
  · have T:k=n:=by omega
    go_wp2_with fail
    go_ret;exact⟨rfl,r.out⟩
end
structure En where
 id:Nat
 tier:Nat
 shard:Nat
 bl:List Int
structure Em where
 e:En
 A:Option Addr
 c:Nat
def Em.cells (x:Em):List Value:=[.int .u64 (x.e.id:Int),(x.e.tier:Int),(x.e.shard:Int),(0:Int),(x.e.bl.length:Int),.slice x.A x.e.bl.length x.c]
structure En.Ok (x:En) (id:Nat):Prop where
 id:1<=x.id/\x.id<=id
 tier:x.tier<=9
 shard:x.shard<=7
 len:1<=x.bl.length/\x.bl.length<=4096
 bl:∀b∈x.bl,0<=b/\b<=4095
structure Jh5 (w:World) (F:Nat ->Prop) (A:Option Addr) (n:Nat) (ms:List Em):Prop where
 sl:Sl w A (ms.flatMap Em.cells)
 len:ms.length=n
 row:∀m∈ms,Ints w .i64 m.A m.e.bl.length m.e.bl/\AIn F m.A
 inl:AIn F A
structure J7h (w:World) (b off:Nat) (x:Em):Prop where
 c0:w.cell? ⟨b,off,none⟩=some (.int .u64 (x.e.id:Int))
 c1:w.cell? ⟨b,off+1,none⟩=some (.int .i64 (x.e.tier:Int))
 c2:w.cell? ⟨b,off+2,none⟩=some (.int .i64 (x.e.shard:Int))
 c3:w.cell? ⟨b,off+3,none⟩=some (.int .i64 0)
 c4:w.cell? ⟨b,off+4,none⟩=some (.int .i64 (x.e.bl.length:Int))
 c5:w.cell? ⟨b,off+5,none⟩=some (.slice x.A x.e.bl.length x.c)
theorem Jqi(x:Em):x.cells.length=6:=rfl
theorem Jzf(l:List Em)(j:Nat)(hj:j<l.length)(q:Nat)(hq:q<6):(l.flatMap Em.cells)[j*6+q]? =l[j].cells[q]? :=by
 induction l generalizing j with
 | nil=>simp at hj
 | cons r s ih=>
   rw[qas];cases j with
   | zero=>
     rw[qcb (by rw[Jqi];omega)]
     simp
   | succ j=>
     rw[qce (by rw[Jqi];omega),Jqi,show(j+1)*6+q - 6=j*6+q from by omega,ih j (by simpa using hj)];rfl
theorem Jzg(l:List Em):(l.flatMap Em.cells).length=l.length*6:=by
 induction l with
 | nil=>rfl
 | cons a r ih=>rw[qas,qad,ih,Jqi,qa3];omega
theorem Jzh(l:List Em):∀u∈l.flatMap Em.cells,u.oneCell'=true:=by
 intro u y;obtain⟨r,_,z⟩:=qcq.1 y;simp[Em.cells] at z;rcases z with rfl | rfl | rfl | rfl | rfl | rfl<;>rfl
section
variable {w w':World} {F G:Nat ->Prop} {A:Option Addr} {n:Nat} {ms:List Em}
theorem Jh5.get(h:Jh5 w F A n ms){j:Nat}(hj:j<ms.length):∃b off,A=some ⟨b,off,none⟩/\b<w.heap.size/\J7h w b (off+j*6) ms[j]:=by
 have y:ms.flatMap Em.cells≠[]:=by
  intro e;have:=Jzg ms;rw[e] at this;simp only[qbn] at this;omega
 obtain⟨b,off,e,x,v⟩:=h.sl.at_ y;refine⟨b,off,e,x,?_⟩
 have X:∀q (hq:q<6),w.cell? ⟨b,off+j*6+q,none⟩=ms[j].cells[q]? :=fun q hq=>by
  have z:ms[j].cells[q]? =some (ms[j].cells[q]'(by rw[Jqi];exact hq)):=qam _;rw[z,qcc];exact v (j*6+q) _ (by rw[Jzf ms j hj q hq,z])
 exact⟨X 0 (by omega),X 1 (by omega),X 2 (by omega),X 3 (by omega),X 4 (by omega),X 5 (by omega)⟩
theorem Jh5.chg(h:Jh5 w F A n ms)(hc:Chg G w w')(hd:Dj F G):Jh5 w' F A n ms:=
 ⟨h.sl.chg hc (h.inl.dj hd),h.len,fun m hm=>⟨(h.row m hm).1.chg hc ((h.row m hm).2.dj hd),(h.row m hm).2⟩,h.inl⟩
theorem Jh5.below(h:Jh5 w F A n ms)(hb:Below w.heap.size w w'):Jh5 w' F A n ms:=
 ⟨h.sl.below hb,h.len,fun m hm=>⟨(h.row m hm).1.below hb,(h.row m hm).2⟩,h.inl⟩
theorem Jh5.sub(h:Jh5 w F A n ms)(hs:∀b,F b ->G b):Jh5 w G A n ms:=⟨h.sl,h.len,fun m hm=>⟨(h.row m hm).1,(h.row m hm).2.sub hs⟩,h.inl.sub hs⟩
end
theorem Jzi(g i:Nat)(now:Int)(nm:ByteArray)(A:Option Addr)(n c:Nat)(B:Option Addr)(c2:Nat)(E:Option Addr)(en ec:Nat)(x:Em)(w:World)(h:Ints w .i64 x.A x.e.bl.length x.e.bl)(hx:x.e.Ok i):
  Cs 385 #[.agg (Ja0 g i now nm A n c B c2 E en ec),.agg x.cells.toArray] w fun e w'=>e= .returned true/\Below w.heap.size w w':=by
 obtain⟨⟨id,tier,shard,bl⟩,A5,c5⟩:=x;have l:=hx.id;have d:=hx.tier;have a:=hx.shard;have s:=hx.len;have r:=zI hx.bl;dsimp only at h l d a s r;have b0:=Bx.new w 207 (Ja0 g i now nm A n c B c2 E en ec);have b1:=b0.alloc (.cells #[.int .u64 (id:Int),(tier:Int),(shard:Int),(0:Int),(bl.length:Int),.slice A5 bl.length c5] 312);have b2:=Bx.new (w.alloc (.cells (Ja0 g i now nm A n c B c2 E en ec) 207)) 312 #[.int .u64 (id:Int),(tier:Int),(shard:Int),(0:Int),(bl.length:Int),.slice A5 bl.length c5];have y:Below w.heap.size w ((w.alloc (.cells (Ja0 g i now nm A n c B c2 E en ec) 207)).alloc (.cells #[.int .u64 (id:Int),(tier:Int),(shard:Int),(0:Int),(bl.length:Int),.slice A5 bl.length c5] 312)):=((qaa _ w).alloc (qab _) _).alloc (by simp) _;have T:=zI (h.below y);have S:=zI h.len;obtain⟨k,Z⟩:=exE bl.length;unfold Em.cells;dsimp only;rw[<- Z] at b1 b2 y T s ⊢;have R:=zI Z;have Y:=zI y;have p:=zI b1;have z:=zI b2;have o:(w.alloc (.cells (Ja0 g i now nm A n c B c2 E en ec) 207)).heap.size=w.heap.size+1:=by simp
 rw[o] at z;clear b0 b1 b2 y h hx Z o;go_enter Tryz.func385,Tryz.ntmps385;go_wp2_with fail
 generalize hwo:((w.alloc (.cells (Ja0 g i now nm A n c B c2 E en ec) 207)).alloc (.cells #[.int .u64 (id:Int),(tier:Int),(shard:Int),(0:Int),(k:Int),.slice A5 k c5] 312))=wo at*;obtain⟨b1,u⟩:∃b,b=w.heap.size:=⟨_,rfl⟩;obtain⟨b2,t⟩:∃b,b=w.heap.size+1:=⟨_,rfl⟩;rw[<- t,<- u];rw[<- u] at p;rw[<- t] at z;clear hwo u t;go_loopw [11] (fun j wr=>∃q:Nat,q<=k/\j= .int .i64 (q:Int)/\wo=wr) (fun j _=>k - (intOf j).toNat)
 case atStart=>exact⟨0,qaq _,rfl,rfl⟩
 case round=>
  obtain⟨q,L,rfl,m⟩:=hrel;subst m;by_cases W:q<k
  · have K:q<bl.length:=by rw[<- R.out];exact W
    obtain⟨b,off,rfl,P,O⟩:=T.out.get K;have V:=zI (Jdj bl[q] 4095 wo (r.out _ (qal K)));generalize bl[q]'K=f at*;go_wp2_with fail
    refine V.out.mono ?_;rintro e w2 ⟨rfl,m⟩;subst m;go_wp2_with fail
    go_roundw
    case rel=>exact⟨q+1,by omega,by go_num,trivial⟩
    case measure=>simp[intOf];omega
  · have U:q=k:=by omega
    subst U;have N:=zI (Jdj (tier:Int) 9 wo (by omega));have M:=zI (Jdj (shard:Int) 7 wo (by omega));have x0:=z.out.at_ 0 (v:= .int .u64 (id:Int)) rfl;have x1:=z.out.at_ 1 (v:= (tier:Int)) rfl;have x2:=z.out.at_ 2 (v:= (shard:Int)) rfl;have x3:=z.out.at_ 3 (v:= (0:Int)) rfl;have x4:=z.out.at_ 4 (v:= (q:Int)) rfl;have x5:=z.out.at_ 5 (v:= .slice A5 q c5) rfl;have y1:=p.out.at_ 1 (v:= .int .u64 (i:Int)) rfl;have e1:decide ((1:Int)<=(id:Int))=true:=qan (by omega);have e1':decide (1<=id)=true:=qan (by omega);have e2:decide ((id:Int)<=(i:Int))=true:=qan (by omega);have e2':decide (id<=i)=true:=qan (by omega);have e3:decide ((1:Int)<=(q:Int))=true:=qan (by omega);have e3':decide (1<=q)=true:=qan (by omega);have e4:decide ((q:Int)<=4096)=true:=qan (by omega);have e4':decide (q<=4096)=true:=qan (by omega);go_wp2_with (go_at_call 409;refine(Jdj _ _ _ (by omega)).mono ?_;rintro e w2 ⟨rfl,m⟩;subst m)
    go_ret;exact⟨rfl,Y.out⟩
open Go.Maps
def shK (ms:List Em):List Lit:=ms.map fun m=>plit (m.e.tier:Int) (m.e.shard:Int)
def blK (l:List Int):List Lit:=l.map (Lit.int .i64)
def Jeb (ms:List Em):List Int:=ms.flatMap fun m=>m.e.bl
theorem J7i{l:List Int}{z:Int}:Lit.int .i64 z∈blK l↔z∈l:=by
 unfold blK;rw[qbm];constructor
 · rintro⟨x,y,e⟩;cases e;exact y
 · intro h;exact⟨z,h,rfl⟩
theorem J7j(ms:List Em)(h:∀m∈ms,m.e.bl.length<=4096):(Jeb ms).length<=4096*ms.length:=by
 induction ms with
 | nil=>simp[Jeb]
 | cons a r ih=>
   have z:=h a (by simp);have y:=ih (fun m hm=>h m (by simp[hm]));unfold Jeb at*;rw[qas,qad,qa3];omega
structure CVd (w wr:World) (cs:Array Value) (b1 b2:Nat) (ks1 ks2:List Lit):Prop where
 bel:Below w.heap.size w wr
 box:Bx wr w.heap.size 207 cs
 s1:KSet wr 3 b1 ks1
 s2:KSet wr 464 b2 ks2
 low1:w.heap.size<b1
 low2:b1<b2
section
variable {w wr w':World} {cs:Array Value} {b1 b2:Nat} {ks1 ks2 k:List Lit}
theorem CVd.below(h:CVd w wr cs b1 b2 ks1 ks2)(hb:Below wr.heap.size wr w'):CVd w w' cs b1 b2 ks1 ks2:=⟨h.bel.trans (hb.mono h.bel.size),h.box.below hb,h.s1.below hb,h.s2.below hb,h.low1,h.low2⟩
theorem CVd.put2(h:CVd w wr cs b1 b2 ks1 ks2)(hs:KSet w' 464 b2 (ks2++k))(hg:wr.grownBy w' (some b2)):CVd w w' cs b1 b2 ks1 (ks2++k):=
 ⟨h.bel.grown hg h.bel.size (fun k e=>by cases e;have:=h.low1;have:=h.low2;omega),h.box.grown hg (by have:=h.low1;have:=h.low2;simp;omega),h.s1.grown hg (by have:=h.low2;simp;omega),hs,h.low1,h.low2⟩
theorem CVd.put1(h:CVd w wr cs b1 b2 ks1 ks2)(hs:KSet w' 3 b1 (ks1++k))(hg:wr.grownBy w' (some b1)):CVd w w' cs b1 b2 (ks1++k) ks2:=
 ⟨h.bel.grown hg h.bel.size (fun k e=>by cases e;have:=h.low1;omega),h.box.grown hg (by have:=h.low1;simp;omega),hs,h.s2.grown hg (by have:=h.low2;simp;omega),h.low1,h.low2⟩
end
theorem Jzj{F:Nat ->Prop}(g i:Nat)(now:Int)(nm:ByteArray)(A:Option Addr)(n c:Nat)(B:Option Addr)(c2:Nat)(E:Option Addr)(en ec:Nat)(ts:List Ti)(fl:List Int)(ms:List Em)(w:World)(hg:1<=g)(hnow:0<=now/\now<=1099511627776)(hnm:nm.size<=maxLen)(h:Tis w A n ts)(hc:n<=c)(hck:Py.checkR nm.toList ts=(0,0))(hB:Ints w .i64 B n fl)(hfl:∀f∈fl,0<=f/\f<=4611686018427387904)(hE:Jh5 w F E en ms)(hen:en<=90)(hok:∀m∈ms,m.e.Ok i)(hsh:(shK ms).Nodup)(hbl:(Jeb ms).Nodup):
  Cs 327 #[.agg (Ja0 g i now nm A n c B c2 E en ec)] w fun e w'=>e= .returned true/\Below w.heap.size w w':=by
 have Y:Below w.heap.size w (w.alloc (.cells (Ja0 g i now nm A n c B c2 E en ec) 207)):=(qaa _ w).alloc (qab _) _;have b0:=Bx.new w 207 (Ja0 g i now nm A n c B c2 E en ec);have Hq:=zI (Jze g i now nm A n c B c2 E en ec ts fl _ hg hnow hnm (h.below Y) hc hck (hB.below Y) hfl);have Hr:=zI (fun W=>Jv5 g i now nm A n c B c2 E en ec W);have Hs:=zI (fun W x (hx:Ints W .i64 x.A x.e.bl.length x.e.bl) (ho:x.e.Ok i)=>Jzi g i now nm A n c B c2 E en ec x W hx ho);have HE:=zI hE;have R:=zI hE.len;have Ha:=zI hok;have Ht:=zI hsh;have Hu:=zI hbl;have Hv:=zI b0;have Hb:=zI Y;have d1:decide ((90:Int)<(en:Int))=false:=qae (by omega);clear b0 Y h hB hck hfl hE hok hsh hbl hg hnow;obtain⟨cs,Km⟩:=exE (Ja0 g i now nm A n c B c2 E en ec);go_enter Tryz.func327,Tryz.ntmps327;go_wp2_with fail
 refine Hq.out.mono ?_;rintro e w1 ⟨rfl,u⟩;have Hc:=zI (Hv.out.below u);have Hd:=zI (Hb.out.trans (u.mono Hb.out.size));clear u;obtain⟨x0,x1,x2,x3,x4,x5,x6,x7,x8,x9,x10,x11⟩:=Jbk Hc.out;go_wp2_with fail
 refine(Hr.out _).mono ?_;rintro e w2 ⟨rfl,t⟩;have P:=zI (Hc.out.below t);have He:=zI (Hd.out.trans (t.mono Hd.out.size));clear t x0 x1 x2 x3 x4 x5 x6 x7 x8 x9 x10 x11;obtain⟨x0,x1,x2,x3,x4,x5,x6,x7,x8,x9,x10,x11⟩:=Jbk P.out;have Kn:=@run_makeMap Tryz.prog
 have a:=zI (show CVd w ((w2.alloc (.map #[] 0)).alloc (.map #[] 0)) (Ja0 g i now nm A n c B c2 E en ec) w2.heap.size (w2.heap.size+1) [] [] from by
  have hs:=He.out.size;have O:=P.out.lt;have r:=(qaa w2.heap.size w2).alloc (qab _) (.map #[] 0);have hz:(w2.alloc (.map #[] 0)).heap.size=w2.heap.size+1:=by simp
  have h2:=(qaa (w2.alloc (.map #[] 0)).heap.size (w2.alloc (.map #[] 0))).alloc (qab _) (.map #[] 0);refine⟨(He.out.trans (r.mono hs)).trans (h2.mono (by omega)),(P.out.below r).below h2,(KSet.made w2 _).below h2,?_,O,by omega⟩;have:=KSet.made (w2.alloc (.map #[] 0)) 464;rw[hz] at this;exact this)
 have y11:=a.out.box.at_ 11 (v:= .slice E en ec) rfl;go_wp2_with fail
 clear y11;obtain⟨w3,M⟩:=exE ((w2.alloc (.map #[] 0)).alloc (.map #[] 0));obtain⟨b1,u⟩:=exE w2.heap.size;obtain⟨b2,t⟩:=exE (w2.heap.size+1);rw[<- M,<- t,<- u] at a;rw[<- M,<- t,<- u];clear M u t x0 x1 x2 x3 x4 x5 x6 x7 x8 x9 x10 x11;go_loopw [5,29] (fun s j wr=>∃k:Nat,k<=en/\j= .int .i64 (k:Int)/\s= .int .i64 ((Jeb (ms.take k)).length:Int)/\CVd w wr (Ja0 g i now nm A n c B c2 E en ec) b1 b2 (blK (Jeb (ms.take k))) (shK (ms.take k))) (fun _ j _=>en - (intOf j).toNat)
 case atStart=>exact⟨0,qaq _,rfl,rfl,a.out⟩
 case round=>
  obtain⟨k,hk,rfl,rfl,p⟩:=hrel;by_cases O:k<en
  · have K:k<ms.length:=by rw[R.out];exact O
    obtain⟨b,off,rfl,hbl,Hw⟩:=(HE.out.below p.bel).get K;have o:=zI (Ha.out _ (qal K));have V:=zI (fun W (hW:Below w.heap.size w W)=>((HE.out.below hW).row _ (qal K)).1)
    have Hf:=zI (show plit (ms[k].e.tier:Int) (ms[k].e.shard:Int)∉shK (ms.take k) from by
     have r:=Ht.out;rw[<- qbe k ms,qbp K] at r;unfold shK at r ⊢;rw[qbf,qby] at r;have h2:=(qdm.1 r).2.2;intro Z;exact h2 _ Z _ (by simp) rfl)
    have Hg:=zI (show(Jeb (ms.take k)++ms[k].e.bl).Nodup from by
     have r:=Hu.out;rw[<- qbe k ms,qbp K] at r;unfold Jeb at r ⊢;rw[qay,qas,<- qa5] at r;exact(qdm.1 r).1)
    have L:=zI (show Jeb (ms.take (k+1))=Jeb (ms.take k)++ms[k].e.bl from by
     unfold Jeb;rw[qak K,qay,qas,qbq,qbk])
    have Hh:=zI (show shK (ms.take (k+1))=shK (ms.take k)++[plit (ms[k].e.tier:Int) (ms[k].e.shard:Int)] from by
     unfold shK;rw[qak K,qbf];rfl)
    have Hx:=zI (show(Jeb (ms.take k)).length<=368640 from by
     have:=J7j (ms.take k) (fun m Z=>(Ha.out m (qbr Z)).len.2);rw[qap] at this;omega)
    have Hy:=zI (show(shK (ms.take k)).length<1000000 from by unfold shK;rw[qa0,qap];omega);generalize ms[k]'K=x at*;generalize Jeb (ms.take k)=l1 at*;generalize shK (ms.take k)=l2 at*;obtain⟨⟨id,tier,shard,bl⟩,A5,c5⟩:=x;obtain⟨r0,r1,r2,r3,r4,r5⟩:=Hw;dsimp only at r0 r1 r2 r3 r4 r5 o V Hf Hg L Hh;obtain⟨m,Z⟩:=exE bl.length;rw[<- Z] at r4 r5 V;have HM:=zI Z;have Ko:m<=4096:=by rw[Z];exact o.out.len.2
    have Kp:=Hx.out;have Kq:tier<=9:=o.out.tier;have Kr:shard<=7:=o.out.shard;have Hi:=(qaa wr.heap.size wr).alloc (qab _) (.cells #[.int .u64 (id:Int),(tier:Int),(shard:Int),(0:Int),(m:Int),.slice A5 m c5] 312);have U:=zI (p.below Hi);have Hj:=zI (Bx.new wr 312 #[.int .u64 (id:Int),(tier:Int),(shard:Int),(0:Int),(m:Int),.slice A5 m c5]);have y:=zI (Hs.out _ ⟨⟨id,tier,shard,bl⟩,A5,c5⟩ (by dsimp only;rw[<- HM.out];exact V.out _ U.out.bel) o.out);unfold Em.cells at y;dsimp only at y;rw[<- HM.out] at y;have Hz:=zI (qar p.box.lt (qab _));obtain⟨gb,J⟩:=exE wr.heap.size;have H0:=zI (show b1<gb/\b2<gb from by rw[J];exact⟨p.s1.lt,p.s2.lt⟩);have x11':=p.box.at_ 11 (v:= .slice (some ⟨b,off,none⟩) en ec) rfl;clear Z p Hi;go_upto_region 8 with fail
    clear x11' r0 r1 r2 r3 r4 r5;obtain⟨x0,x1,x2,x3,x4,x5,x6,x7,x8,x9,x10,x11⟩:=Jbk U.out.box;go_wp2_with fail
    refine y.out.mono ?_;rintro e w5 ⟨rfl,I⟩;clear x0 x1 x2 x3 x4 x5 x6 x7 x8 x9 x10 x11;have H:=zI (U.out.below I);have l:=zI (Hj.out.below I);rw[<- J] at l ⊢;clear I J Hj U y;have y1:=l.out.at_ 1 (v:= (tier:Int)) rfl;have y2:=l.out.at_ 2 (v:= (shard:Int)) rfl;have y5:=l.out.at_ 5 (v:= .slice A5 m c5) rfl;go_upto_region 11 with(at_mapUpdate;refine Jty rfl _ _ _ rfl Jtz Tryz.underlying462 rfl H.out.s2 Hy.out _ (plit (tier:Int) (shard:Int)) rfl rfl (Jnv (Jca (by omega)) (Jca (by omega))) Hf.out ?_;intro w6 Hk G)
    have Ks:=H0.out;have D:=zI (H.out.put2 Hk G);have C:=zI (l.out.grown G (by simp;omega));rw[<- Hh.out] at D;have z5:=C.out.at_ 5 (v:= .slice A5 m c5) rfl;clear Hk G y1 y2 y5 l H;go_wp2_with fail
    obtain⟨wo,Hl⟩:=exE wr;obtain⟨wi,Hm⟩:=exE w6;rw[<- Hm] at D C ⊢;rw[<- Hl] at hbl Hz;clear z5 Hm Hl;go_loopw [49] (fun j wq=>∃q:Nat,q<=m/\j= .int .i64 (q:Int)/\CVd w wq (Ja0 g i now nm A n c B c2 (some ⟨b,off,none⟩) en ec) b1 b2 (blK (l1++bl.take q)) (shK (ms.take (k+1)))/\Bx wq gb 312 #[.int .u64 (id:Int),(tier:Int),(shard:Int),(0:Int),(m:Int),.slice A5 m c5]) (fun j _=>m - (intOf j).toNat)
    case atStart=>exact⟨0,qaq _,rfl,by simpa using D.out,C.out⟩
    case round=>
     obtain⟨q,hq,rfl,d,T⟩:=hrel;by_cases H9:q<m
     · have Q:q<bl.length:=by rw[<- HM.out];exact H9
       obtain⟨b',off',rfl,Kk,Kl⟩:=(V.out _ d.bel).get Q;have HZ:=zI (o.out.bl _ (qal Q))
       have Ka:=zI (show blK (l1++bl.take (q+1))=blK (l1++bl.take q)++[Lit.int .i64 bl[q]] from by
        unfold blK;rw[qak Q,<- qa5,qbf];rfl)
       have Kb:=zI (show Lit.int .i64 bl[q]∉blK (l1++bl.take q) from by
        rw[J7i];have r:=Hg.out;rw[<- qbe q bl,qbp Q,<- qa5] at r;intro Z;exact(qdm.1 r).2.2 _ Z _ List.mem_cons_self rfl)
       have Kc:=zI (show(blK (l1++bl.take q)).length<1000000 from by unfold blK;rw[qa0,qad,qap];omega);generalize bl[q]'Q=z at*;have Kd:(Lit.int .i64 z).wf=true:=Jca (by have:=HZ.out;omega);have Hn:=zI d;have Ke:=zI T;clear d T;go_wp2_with (at_mapUpdate;refine Jty rfl _ _ _ rfl (int_keyed Tryz.underlying3) Tryz.underlying233 rfl Hn.out.s1 Kc.out _ (Lit.int .i64 z) rfl rfl (keyOf_int_mk Tryz.underlying3 Kd) Kb.out ?_;intro w8 Ho hJ)
       have Hp:=zI (Hn.out.put1 Ho hJ);have Kf:=zI (Ke.out.grown hJ (by simp;omega));rw[<- Ka.out] at Hp;clear Ho hJ;go_wp2_with fail
       go_roundw
       case rel=>exact⟨q+1,by omega,by go_num,Hp.out,Kf.out⟩
       case measure=>simp[intOf];omega
     · have Kg:q=m:=by omega
       have S:=zI (show l1++bl.take q=Jeb (ms.take (k+1)) from by rw[L.out,Kg,HM.out,qb4]);rw[S.out] at d;have Kh:=zI (show(l1.length:Int)+(m:Int)=((Jeb (ms.take (k+1))).length:Int) from by rw[L.out,qad,<- HM.out];omega);have Kt:=zI (show IntKind.i64.wrap ((l1.length:Int)+(m:Int))=(l1.length:Int)+(m:Int) from qbd _ (by omega));have Ki:=zI d;have t5:=T.at_ 5 (v:= .slice A5 m c5) rfl;clear d T;go_wp2_with fail
       go_roundw
       case rel=>exact⟨k+1,by omega,by go_num,by rw[<- Kh.out],Ki.out⟩
       case measure=>simp[intOf];omega
  · have Ku:k=en:=by omega
    have S:=zI (show ms.take k=ms from qao (by rw[R.out];omega));rw[S.out] at p;rw[S.out];have q1:=fun ty=>p.s1.len Tryz.underlying233 ty;have q2:=fun ty=>p.s2.len Tryz.underlying462 ty;rw[show(shK ms).length=en from by unfold shK;rw[qa0,R.out]] at q2;rw[show(blK (Jeb ms)).length=(Jeb ms).length from by unfold blK;rw[qa0]] at q1;have y11:=p.box.at_ 11 (v:= .slice E en ec) rfl;have Kj:=zI p.bel;generalize (Jeb ms).length=N at*;clear p;go_wp2_with fail
    go_ret;exact⟨rfl,Kj.out⟩
end Go.Proofs.YtglmhddbhhcjdaaGreatDoor
