/- Laws that the walk of the last text wants. -/
import Derived.Test.YtglmhddbhhcjdaaGreatDoorC24
import Derived.Test.YtglmhddbhhcjdaaGreatDoorC18
import Derived.Test.YtglmhddbhhcjdaaGreatDoorC26
set_option maxRecDepth 100000
set_option linter.unusedSimpArgs false
set_option maxHeartbeats 4000000
namespace Go.Proofs.YtglmhddbhhcjdaaGreatDoor
open Go.RowKit Go.Maps
def shK (ms:List Em):List Lit:=ms.map fun m=>plit (m.e.tier:Int) (m.e.shard:Int)
def blK (l:List Int):List Lit:=l.map (Lit.int .i64)
def Jej (ms:List Em):List Int:=ms.flatMap fun m=>m.e.bl
theorem J8k{l:List Int}{z:Int}:Lit.int .i64 z∈blK l↔z∈l:=by
 unfold blK;rw[qbn];constructor
 · rintro⟨x,y,e⟩;cases e;exact y
 · intro h;exact⟨z,h,rfl⟩
theorem J8l(ms:List Em)(h:∀m∈ms,m.e.bl.length<=4096):(Jej ms).length<=4096*ms.length:=by
 induction ms with
 | nil=>simp[Jej]
 | cons a r ih=>
   have z:=h a (by simp);have y:=ih (fun m hm=>h m (by simp[hm]));unfold Jej at*;rw[qau,qad,qa3];omega
structure CVd (w wr:World) (cs:Array Value) (b1 b2:Nat) (ks1 ks2:List Lit):Prop where
 bel:Below w.heap.size w wr
 box:Bx wr w.heap.size 207 cs
 s1:KSet wr 3 b1 ks1
 s2:KSet wr 464 b2 ks2
 low1:w.heap.size<b1
 low2:b1<b2
section
variable {w wr w':World} {cs:Array Value} {b1 b2:Nat} {ks1 ks2 k:List Lit}
theorem CVd.below(h:CVd w wr cs b1 b2 ks1 ks2)(hb:Below wr.heap.size wr w'):CVd w w' cs b1 b2 ks1 ks2:=⟨h.bel.trans (hb.mono h.bel.size),h.box.below hb,h.s1.below hb,h.s2.below hb,h.low1,h.low2⟩
theorem CVd.put2(h:CVd w wr cs b1 b2 ks1 ks2)(hs:KSet w' 464 b2 (ks2++k))(hg:wr.grownBy w' (some b2)):CVd w w' cs b1 b2 ks1 (ks2++k):=
 ⟨h.bel.grown hg h.bel.size (fun k e=>by cases e;have:=h.low1;have:=h.low2;omega),h.box.grown hg (by have:=h.low1;have:=h.low2;simp;omega),h.s1.grown hg (by have:=h.low2;simp;omega),hs,h.low1,h.low2⟩
theorem CVd.put1(h:CVd w wr cs b1 b2 ks1 ks2)(hs:KSet w' 3 b1 (ks1++k))(hg:wr.grownBy w' (some b1)):CVd w w' cs b1 b2 (ks1++k) ks2:=
 ⟨h.bel.grown hg h.bel.size (fun k e=>by cases e;have:=h.low1;omega),h.box.grown hg (by have:=h.low1;simp;omega),hs,h.s2.grown hg (by have:=h.low2;simp;omega),h.low1,h.low2⟩
end
theorem J07{F:Nat ->Prop}(g i:Nat)(now:Int)(nm:ByteArray)(A:Option Addr)(n c:Nat)(B:Option Addr)(c2:Nat)(E:Option Addr)(en ec:Nat)(ts:List Ti)(fl:List Int)(ms:List Em)(w:World)(hg:1<=g)(hnow:0<=now/\now<=1099511627776)(hnm:nm.size<=maxLen)(h:Tis w A n ts)(hc:n<=c)(hck:Py.checkR nm.toList ts=(0,0))(hB:Ints w .i64 B n fl)(hfl:∀f∈fl,0<=f/\f<=4611686018427387904)(hE:Jid w F E en ms)(hen:en<=90)(hok:∀m∈ms,m.e.Ok i)(hsh:(shK ms).Nodup)(hbl:(Jej ms).Nodup):
  Cs 327 #[.agg (Ja1 g i now nm A n c B c2 E en ec)] w fun e w'=>e= .returned true/\Below w.heap.size w w':=by
 have Y:Below w.heap.size w (w.alloc (.cells (Ja1 g i now nm A n c B c2 E en ec) 207)):=(qaa _ w).alloc (qab _) _;have b0:=Bx.new w 207 (Ja1 g i now nm A n c B c2 E en ec);have Hq:=zI (Jz2 g i now nm A n c B c2 E en ec ts fl _ hg hnow hnm (h.below Y) hc hck (hB.below Y) hfl);have Hr:=zI (fun W=>Jwr g i now nm A n c B c2 E en ec W);have Hs:=zI (fun W x (hx:Ints W .i64 x.A x.e.bl.length x.e.bl) (ho:x.e.Ok i)=>Jz6 g i now nm A n c B c2 E en ec x W hx ho);have HE:=zI hE;have R:=zI hE.len;have Ha:=zI hok;have Ht:=zI hsh;have Hu:=zI hbl;have Hv:=zI b0;have Hb:=zI Y;have d1:decide ((90:Int)<(en:Int))=false:=qae (by omega);clear b0 Y h hB hck hfl hE hok hsh hbl hg hnow;obtain⟨cs,Km⟩:=exE (Ja1 g i now nm A n c B c2 E en ec);go_enter Tryz.func327,Tryz.ntmps327;go_wp2_with fail
 refine Hq.out.mono ?_;rintro e w1 ⟨rfl,u⟩;have Hc:=zI (Hv.out.below u);have Hd:=zI (Hb.out.trans (u.mono Hb.out.size));clear u;obtain⟨x0,x1,x2,x3,x4,x5,x6,x7,x8,x9,x10,x11⟩:=Jbm Hc.out;go_wp2_with fail
 refine(Hr.out _).mono ?_;rintro e w2 ⟨rfl,t⟩;have P:=zI (Hc.out.below t);have He:=zI (Hd.out.trans (t.mono Hd.out.size));clear t x0 x1 x2 x3 x4 x5 x6 x7 x8 x9 x10 x11;obtain⟨x0,x1,x2,x3,x4,x5,x6,x7,x8,x9,x10,x11⟩:=Jbm P.out;have Kn:=@run_makeMap Tryz.prog
 have a:=zI (show CVd w ((w2.alloc (.map #[] 0)).alloc (.map #[] 0)) (Ja1 g i now nm A n c B c2 E en ec) w2.heap.size (w2.heap.size+1) [] [] from by
  have hs:=He.out.size;have O:=P.out.lt;have r:=(qaa w2.heap.size w2).alloc (qab _) (.map #[] 0);have hz:(w2.alloc (.map #[] 0)).heap.size=w2.heap.size+1:=by simp
  have h2:=(qaa (w2.alloc (.map #[] 0)).heap.size (w2.alloc (.map #[] 0))).alloc (qab _) (.map #[] 0);refine⟨(He.out.trans (r.mono hs)).trans (h2.mono (by omega)),(P.out.below r).below h2,(KSet.made w2 _).below h2,?_,O,by omega⟩;have:=KSet.made (w2.alloc (.map #[] 0)) 464;rw[hz] at this;exact this)
 have y11:=a.out.box.at_ 11 (v:= .slice E en ec) rfl;go_wp2_with fail
 clear y11;obtain⟨w3,M⟩:=exE ((w2.alloc (.map #[] 0)).alloc (.map #[] 0));obtain⟨b1,u⟩:=exE w2.heap.size;obtain⟨b2,t⟩:=exE (w2.heap.size+1);rw[<- M,<- t,<- u] at a;rw[<- M,<- t,<- u];clear M u t x0 x1 x2 x3 x4 x5 x6 x7 x8 x9 x10 x11;go_loopw [5,29] (fun s j wr=>∃k:Nat,k<=en/\j= .int .i64 (k:Int)/\s= .int .i64 ((Jej (ms.take k)).length:Int)/\CVd w wr (Ja1 g i now nm A n c B c2 E en ec) b1 b2 (blK (Jej (ms.take k))) (shK (ms.take k))) (fun _ j _=>en - (intOf j).toNat)
 case atStart=>exact⟨0,qaq _,rfl,rfl,a.out⟩
 case round=>
  obtain⟨k,hk,rfl,rfl,p⟩:=hrel;by_cases O:k<en
  · have K:k<ms.length:=by rw[R.out];exact O
    obtain⟨b,off,rfl,hbl,Hw⟩:=(HE.out.below p.bel).get K;have o:=zI (Ha.out _ (qan K));have V:=zI (fun W (hW:Below w.heap.size w W)=>((HE.out.below hW).row _ (qan K)).1)
    have Hf:=zI (show plit (ms[k].e.tier:Int) (ms[k].e.shard:Int)∉shK (ms.take k) from by
     have r:=Ht.out;rw[<- qa8 k ms,qbm K] at r;unfold shK at r ⊢;rw[qbg,qbz] at r;have h2:=(qdm.1 r).2.2;intro Z;exact h2 _ Z _ (by simp) rfl)
    have Hg:=zI (show(Jej (ms.take k)++ms[k].e.bl).Nodup from by
     have r:=Hu.out;rw[<- qa8 k ms,qbm K] at r;unfold Jej at r ⊢;rw[qav,qau,<- qas] at r;exact(qdm.1 r).1)
    have L:=zI (show Jej (ms.take (k+1))=Jej (ms.take k)++ms[k].e.bl from by
     unfold Jej;rw[qam K,qav,qau,qbt,qbp])
    have Hh:=zI (show shK (ms.take (k+1))=shK (ms.take k)++[plit (ms[k].e.tier:Int) (ms[k].e.shard:Int)] from by
     unfold shK;rw[qam K,qbg];rfl)
    have Hx:=zI (show(Jej (ms.take k)).length<=368640 from by
     have:=J8l (ms.take k) (fun m Z=>(Ha.out m (qbi Z)).len.2);rw[qao] at this;omega)
    have Hy:=zI (show(shK (ms.take k)).length<1000000 from by unfold shK;rw[qa4,qao];omega);generalize ms[k]'K=x at*;generalize Jej (ms.take k)=l1 at*;generalize shK (ms.take k)=l2 at*;obtain⟨⟨id,tier,shard,bl⟩,A5,c5⟩:=x;obtain⟨r0,r1,r2,r3,r4,r5⟩:=Hw;dsimp only at r0 r1 r2 r3 r4 r5 o V Hf Hg L Hh;obtain⟨m,Z⟩:=exE bl.length;rw[<- Z] at r4 r5 V;have HM:=zI Z;have Ko:m<=4096:=by rw[Z];exact o.out.len.2
    have Kp:=Hx.out;have Kq:tier<=9:=o.out.tier;have Kr:shard<=7:=o.out.shard;have Hi:=(qaa wr.heap.size wr).alloc (qab _) (.cells #[.int .u64 (id:Int),(tier:Int),(shard:Int),(0:Int),(m:Int),.slice A5 m c5] 312);have U:=zI (p.below Hi);have Hj:=zI (Bx.new wr 312 #[.int .u64 (id:Int),(tier:Int),(shard:Int),(0:Int),(m:Int),.slice A5 m c5]);have y:=zI (Hs.out _ ⟨⟨id,tier,shard,bl⟩,A5,c5⟩ (by dsimp only;rw[<- HM.out];exact V.out _ U.out.bel) o.out);unfold Em.cells at y;dsimp only at y;rw[<- HM.out] at y;have Hz:=zI (qar p.box.lt (qab _));obtain⟨gb,J⟩:=exE wr.heap.size;have H0:=zI (show b1<gb/\b2<gb from by rw[J];exact⟨p.s1.lt,p.s2.lt⟩);have x11':=p.box.at_ 11 (v:= .slice (some ⟨b,off,none⟩) en ec) rfl;clear Z p Hi;go_upto_region 8 with fail
    clear x11' r0 r1 r2 r3 r4 r5;obtain⟨x0,x1,x2,x3,x4,x5,x6,x7,x8,x9,x10,x11⟩:=Jbm U.out.box;go_wp2_with fail
    refine y.out.mono ?_;rintro e w5 ⟨rfl,I⟩;clear x0 x1 x2 x3 x4 x5 x6 x7 x8 x9 x10 x11;have H:=zI (U.out.below I);have l:=zI (Hj.out.below I);rw[<- J] at l ⊢;clear I J Hj U y;have y1:=l.out.at_ 1 (v:= (tier:Int)) rfl;have y2:=l.out.at_ 2 (v:= (shard:Int)) rfl;have y5:=l.out.at_ 5 (v:= .slice A5 m c5) rfl;go_upto_region 11 with(at_mapUpdate;refine Jun rfl _ _ _ rfl Juo Tryz.underlying462 rfl H.out.s2 Hy.out _ (plit (tier:Int) (shard:Int)) rfl rfl (Joe (Jcd (by omega)) (Jcd (by omega))) Hf.out ?_;intro w6 Hk G)
    have Ks:=H0.out;have D:=zI (H.out.put2 Hk G);have C:=zI (l.out.grown G (by simp;omega));rw[<- Hh.out] at D;have z5:=C.out.at_ 5 (v:= .slice A5 m c5) rfl;clear Hk G y1 y2 y5 l H;go_wp2_with fail
    obtain⟨wo,Hl⟩:=exE wr;obtain⟨wi,Hm⟩:=exE w6;rw[<- Hm] at D C ⊢;rw[<- Hl] at hbl Hz;clear z5 Hm Hl;go_loopw [49] (fun j wq=>∃q:Nat,q<=m/\j= .int .i64 (q:Int)/\CVd w wq (Ja1 g i now nm A n c B c2 (some ⟨b,off,none⟩) en ec) b1 b2 (blK (l1++bl.take q)) (shK (ms.take (k+1)))/\Bx wq gb 312 #[.int .u64 (id:Int),(tier:Int),(shard:Int),(0:Int),(m:Int),.slice A5 m c5]) (fun j _=>m - (intOf j).toNat)
    case atStart=>exact⟨0,qaq _,rfl,by simpa using D.out,C.out⟩
    case round=>
     obtain⟨q,hq,rfl,d,T⟩:=hrel;by_cases H9:q<m
     · have Q:q<bl.length:=by rw[<- HM.out];exact H9
       obtain⟨b',off',rfl,Kk,Kl⟩:=(V.out _ d.bel).get Q;have HZ:=zI (o.out.bl _ (qan Q))
       have Ka:=zI (show blK (l1++bl.take (q+1))=blK (l1++bl.take q)++[Lit.int .i64 bl[q]] from by
        unfold blK;rw[qam Q,<- qas,qbg];rfl)
       have Kb:=zI (show Lit.int .i64 bl[q]∉blK (l1++bl.take q) from by
        rw[J8k];have r:=Hg.out;rw[<- qa8 q bl,qbm Q,<- qas] at r;intro Z;exact(qdm.1 r).2.2 _ Z _ List.mem_cons_self rfl)
       have Kc:=zI (show(blK (l1++bl.take q)).length<1000000 from by unfold blK;rw[qa4,qad,qao];omega);generalize bl[q]'Q=z at*;have Kd:(Lit.int .i64 z).wf=true:=Jcd (by have:=HZ.out;omega);have Hn:=zI d;have Ke:=zI T;clear d T;go_wp2_with (at_mapUpdate;refine Jun rfl _ _ _ rfl (int_keyed Tryz.underlying3) Tryz.underlying233 rfl Hn.out.s1 Kc.out _ (Lit.int .i64 z) rfl rfl (keyOf_int_mk Tryz.underlying3 Kd) Kb.out ?_;intro w8 Ho hJ)
       have Hp:=zI (Hn.out.put1 Ho hJ);have Kf:=zI (Ke.out.grown hJ (by simp;omega));rw[<- Ka.out] at Hp;clear Ho hJ;go_wp2_with fail
       go_roundw
       case rel=>exact⟨q+1,by omega,by go_num,Hp.out,Kf.out⟩
       case measure=>simp[intOf];omega
     · have Kg:q=m:=by omega
       have S:=zI (show l1++bl.take q=Jej (ms.take (k+1)) from by rw[L.out,Kg,HM.out,qca]);rw[S.out] at d;have Kh:=zI (show(l1.length:Int)+(m:Int)=((Jej (ms.take (k+1))).length:Int) from by rw[L.out,qad,<- HM.out];omega);have Kt:=zI (show IntKind.i64.wrap ((l1.length:Int)+(m:Int))=(l1.length:Int)+(m:Int) from qbd _ (by omega));have Ki:=zI d;have t5:=T.at_ 5 (v:= .slice A5 m c5) rfl;clear d T;go_wp2_with fail
       go_roundw
       case rel=>exact⟨k+1,by omega,by go_num,by rw[<- Kh.out],Ki.out⟩
       case measure=>simp[intOf];omega
  · have Ku:k=en:=by omega
    have S:=zI (show ms.take k=ms from qap (by rw[R.out];omega));rw[S.out] at p;rw[S.out];have q1:=fun ty=>p.s1.len Tryz.underlying233 ty;have q2:=fun ty=>p.s2.len Tryz.underlying462 ty;rw[show(shK ms).length=en from by unfold shK;rw[qa4,R.out]] at q2;rw[show(blK (Jej ms)).length=(Jej ms).length from by unfold blK;rw[qa4]] at q1;have y11:=p.box.at_ 11 (v:= .slice E en ec) rfl;have Kj:=zI p.bel;generalize (Jej ms).length=N at*;clear p;go_wp2_with fail
    go_ret;exact⟨rfl,Kj.out⟩
end Go.Proofs.YtglmhddbhhcjdaaGreatDoor
namespace Go.Proofs.YtglmhddbhhcjdaaGreatDoor
open Go.RowKit
def enB (e:En):List UInt8:=le 8 e.id++(le 1 e.tier++le 1 e.shard)++le 2 e.bl.length++e.bl.flatMap fun b=>le 2 b.toNat
def catH (g i:Nat) (now:Int) (txt:List UInt8) (fl:List Int) (n:Nat):List UInt8:=
 le 8 g++le 8 i++le 8 (u64 now)++txB txt++(fl.flatMap fun v=>le 8 (u64 v))++txB []++(le 8 (u64 0)++le 8 (u64 0))++le 2 n
def catB (g i:Nat) (now:Int) (txt:List UInt8) (fl:List Int) (es:List En):List UInt8:=catH g i now txt fl es.length++es.flatMap enB
structure Jgz (w:World) (F:Nat ->Prop) (g i:Nat) (now:Int) (nm:ByteArray) (A:Option Addr) (n c:Nat) (B:Option Addr) (c2:Nat) (E:Option Addr) (en ec:Nat) (ts:List Ti) (fl:List Int) (ms:List Em):Prop where
 hg:1<=g/\g<18446744073709551616
 hi:i<18446744073709551616
 hnow:0<=now/\now<=1099511627776
 hnm:nm.size<=maxLen
 hts:Tis w A n ts
 hc:n<=c
 hck:Py.checkR nm.toList ts=(0,0)
 hfl:Ints w .i64 B n fl
 hflo:∀f∈fl,0<=f/\f<=4611686018427387904
 hes:Jid w F E en ms
 hen:en<=90
 hok:∀m∈ms,m.e.Ok i
 hsh:(shK ms).Nodup
 hbl:(Jej ms).Nodup
 hlen:(catB g i now (Py.printL nm.toList ts) fl (ms.map Em.e)).length<=40000
theorem Jgz.below{w w':World}{F:Nat ->Prop}{g i:Nat}{now:Int}{nm:ByteArray}{A:Option Addr}{n c:Nat}{B:Option Addr}{c2:Nat}{E:Option Addr}{en ec:Nat}{ts:List Ti}{fl:List Int}{ms:List Em}(h:Jgz w F g i now nm A n c B c2 E en ec ts fl ms)(hb:Below w.heap.size w w'):Jgz w' F g i now nm A n c B c2 E en ec ts fl ms:=
 ⟨h.hg,h.hi,h.hnow,h.hnm,h.hts.below hb,h.hc,h.hck,h.hfl.below hb,h.hflo,h.hes.below hb,h.hen,h.hok,h.hsh,h.hbl,h.hlen⟩
theorem J08{F:Nat ->Prop}(g i:Nat)(now:Int)(nm:ByteArray)(A:Option Addr)(n c:Nat)(B:Option Addr)(c2:Nat)(E:Option Addr)(en ec:Nat)(ts:List Ti)(fl:List Int)(ms:List Em)(w:World)(h:Jgz w F g i now nm A n c B c2 E en ec ts fl ms)(hG:Glo w):
  Calls Tryz.prog 280 #[.agg (Ja1 g i now nm A n c B c2 E en ec)] w fun e w'=>e= .returned (.tuple #[.string (strOf (catB g i now (Py.printL nm.toList ts) fl (ms.map Em.e))),.int .i64 0])/\Below w.heap.size w w':=by
 have Z:Below w.heap.size w (w.alloc (.cells (Ja1 g i now nm A n c B c2 E en ec) 207)):=(qaa _ w).alloc (qab _) _;have b0:=Bx.new w 207 (Ja1 g i now nm A n c B c2 E en ec);have r:=h.below Z;have Kw:=zI (J07 g i now nm A n c B c2 E en ec ts fl ms _ r.hg.1 r.hnow r.hnm r.hts r.hc r.hck r.hfl r.hflo r.hes r.hen r.hok r.hsh r.hbl);have HC:=zI r;have HG:=zI (hG.below Z);have Kx:=zI b0;have Hn:=zI Z;have Ky:=zI (fun W=>Juy g i now nm A n c B c2 E en ec W);have Ta:=h.hen;clear b0 Z h r hG;go_enter Tryz.func280,Tryz.ntmps280;go_wp2_with fail
 refine Kw.out.mono ?_;rintro e w1 ⟨rfl,o⟩;have Ho:=zI (Kx.out.below o);have Hp:=zI (Hn.out.trans (o.mono Hn.out.size));have Y:=zI (HC.out.below o);have Kz:=zI (HG.out.below o);have KC:=zI (Py.printP_any nm A n c ts w1 Y.out.hck Y.out.hts Y.out.hc Kz.out.tab);clear o;obtain⟨x0,x1,x2,x3,x4,x5,x6,x7,x8,x9,x10,x11⟩:=Jbm Ho.out;go_wp2_with fail
 refine KC.out.mono ?_;rintro e w2 ⟨rfl,V⟩;have Hq:=zI (Ho.out.below V);have Hr:=zI (Hp.out.trans (V.mono Hp.out.size));have KD:=zI (Y.out.below V);clear V x0 x1 x2 x3 x4 x5 x6 x7 x8 x9 x10 x11;obtain⟨x0,x1,x2,x3,x4,x5,x6,x7,x8,x9,x10,x11⟩:=Jbm Hq.out;go_wp2_with fail
 refine(Ky.out _).mono ?_;rintro e w3 ⟨rfl,U⟩;have q:=zI (Hq.out.below U);have Hs:=zI (Hr.out.trans (U.mono Hr.out.size));have t:=zI (KD.out.below U);clear U x0 x1 x2 x3 x4 x5 x6 x7 x8 x9 x10 x11;go_upto_region 8 with fail
 have f:=zI (LayW.new w3);have KE:=zI t.out.hfl;have Hb:=zI t.out.hlen;have Ht:=zI (show(fl.flatMap fun v=>le 8 (u64 v)).length=8*n from by rw[Je9 (fun v=>le 8 (u64 v)) 8 (fun a=>Ja2 8 _) fl,t.out.hfl.len]);have S:1<=n:=by have:=(Py.check_fine t.out.hck).2.1;rw[t.out.hts.len] at this;exact this
 have hb:(Py.printL nm.toList ts).length+8*n<=40000:=by
  have:=Hb.out;unfold catB catH at this;simp only[qad,Ht.out] at this;unfold txB at this;simp only[qad,Ja2] at this;omega
 generalize hPP:Py.printL nm.toList ts=P at*;have KG:=zI hPP;obtain⟨pn,d⟩:∃pn,pn=P.length:=⟨_,rfl⟩;have Hu:(⟨P.toArray⟩:ByteArray).size=pn:=by rw[<- Jac,Py.toList_mk,d]
 have Hv:=zI (show txB (⟨P.toArray⟩:ByteArray).toList=txB P from by rw[Py.toList_mk]);have KH:=zI (show(txB P).length=2+pn from by unfold txB;rw[qad,Ja2,d]);rw[<- d] at hb;have Tb:=zI d;have KI:=zI (show(txB ByteArray.empty.toList).length=2 from by unfold txB;rw[qad,Ja2,qaw];rfl);have KJ:=zI Hu;generalize (⟨P.toArray⟩:ByteArray)=PS at*;obtain⟨gp,Hw⟩:∃gp,gp=w3.heap.size:=⟨_,rfl⟩;obtain⟨wL,Hx⟩:∃wL,wL=w3.alloc (.cells #[.int .i64 0,.slice none 0 0] 281):=⟨_,rfl⟩;rw[<- Hw,<- Hx] at f ⊢;obtain⟨l0,R⟩:∃l0:List UInt8,l0=[]:=⟨_,rfl⟩;rw[<- R] at f;have Hy:=zI R;have Hz:l0.length=0:=by rw[R];rfl
 clear Hx Hw R d Hu hPP;have z:=zI (f.out.bx q.out);have x0:=z.out.at_ 0 (v:= .int .u64 (g:Int)) rfl;have x1:=z.out.at_ 1 (v:= .int .u64 (i:Int)) rfl;have u:=zI (f.out.words [g,i] 2 2 #[.int .u64 (g:Int),.int .u64 (i:Int)] rfl rfl (by omega));go_upto_region 9 with(go_at_call 260;refine u.out.mono ?_;rintro e w11 ⟨rfl,y⟩)
 obtain⟨l1,O⟩:∃l,l=l0++[g,i].flatMap (le 8):=⟨_,rfl⟩;rw[<- O] at y;have S:l1.length=16:=by rw[O,qad,Hz];simp only[qau,qbt,qad,Ja2,qbo]
 have Hc:=zI y;have H0:=zI O;clear y O Hz u z x0 x1;have z:=zI (Hc.out.bx q.out);have x0:=z.out.at_ 2 (v:= .int .i64 now) rfl;have u:=zI (Hc.out.ints [now] 1 1 #[.int .i64 now] rfl rfl (by omega));go_upto_region 10 with(go_at_call 176;refine u.out.mono ?_;rintro e w12 ⟨rfl,y⟩)
 obtain⟨l2,N⟩:∃l,l=l1++[now].flatMap fun v=>le 8 (u64 v):=⟨_,rfl⟩;rw[<- N] at y;have H9:l2.length=24:=by rw[N,qad,S];simp only[qau,qbt,qad,Ja2,qbo]
 have Ka:=zI y;have Kb:=zI N;clear y N S u z x0;have u:=zI (Ka.out.text PS (by omega) (by rw[KJ.out];omega));go_upto_region 11 with(go_at_call 330;refine u.out.mono ?_;rintro e w13 ⟨rfl,y⟩)
 obtain⟨l3,M⟩:∃l,l=l2++txB PS.toList:=⟨_,rfl⟩;rw[<- M] at y;have Kc:l3.length=26+pn:=by rw[M,qad,H9,Hv.out,KH.out];omega
 have Hd:=zI y;have Kd:=zI M;clear y M H9 u;have z:=zI (Hd.out.bx q.out);have x0:=z.out.at_ 5 (v:= .slice B n c2) rfl;have u:=zI (Hd.out.ints_old B n c2 fl KE.out S (by omega));go_upto_region 12 with(go_at_call 176;refine u.out.mono ?_;rintro e w14 ⟨rfl,y⟩)
 obtain⟨l4,L⟩:∃l,l=l3++fl.flatMap fun v=>le 8 (u64 v):=⟨_,rfl⟩;rw[<- L] at y;have Ke:l4.length=26+pn+8*n:=by rw[L,qad,Kc,Ht.out]
 have Kf:=zI y;have Kg:=zI L;clear y L Kc u z x0;have u:=zI (Kf.out.text ByteArray.empty (by omega) (by decide));go_upto_region 13 with(go_at_call 330;refine u.out.mono ?_;rintro e w15 ⟨rfl,y⟩)
 obtain⟨l5,J⟩:∃l,l=l4++txB ByteArray.empty.toList:=⟨_,rfl⟩;rw[<- J] at y;have Kh:l5.length=28+pn+8*n:=by rw[J,qad,Ke,KI.out];omega
 have He:=zI y;have Ki:=zI J;clear y J Ke u;have z:=zI (He.out.bx q.out);have x0:=z.out.at_ 8 (v:= .slice none 0 0) rfl;have u:=zI (He.out.small_nil 1 (.inl rfl) (by omega));go_upto_region 14 with(go_at_call 175;refine u.out.mono ?_;rintro e w16 ⟨rfl,y⟩)
 obtain⟨l6,I⟩:∃l,l=l5:=⟨_,rfl⟩;rw[<- I] at y;have Kj:l6.length=28+pn+8*n:=by rw[I,Kh]
 have Hf:=zI y;have Kk:=zI I;clear y I Kh u z x0;have z:=zI (Hf.out.bx q.out);have x0:=z.out.at_ 9 (v:= .int .i64 0) rfl;have x1:=z.out.at_ 10 (v:= .int .i64 0) rfl;have u:=zI (Hf.out.ints [0,0] 2 2 #[.int .i64 0,.int .i64 0] rfl rfl (by omega));go_upto_region 15 with(go_at_call 176;refine u.out.mono ?_;rintro e w17 ⟨rfl,y⟩)
 obtain⟨l7,H⟩:∃l,l=l6++[0,0].flatMap fun v=>le 8 (u64 v):=⟨_,rfl⟩;rw[<- H] at y;have Kl:l7.length=44+pn+8*n:=by rw[H,qad,Kj];simp only[qau,qbt,qad,Ja2,qbo];omega
 have Hg:=zI y;have Km:=zI H;clear y H Kj u z x0 x1;have z:=zI (Hg.out.bx q.out);have x0:=z.out.at_ 11 (v:= .slice E en ec) rfl;have u:=zI (Hg.out.small 2 (.inr (.inl rfl)) [en] (by intro v hv;rw[qa1.1 hv];omega) 1 1 #[.int .i64 (en:Int)] rfl rfl (by omega));go_upto_region 16 with(go_at_call 175;refine u.out.mono ?_;rintro e w18 ⟨rfl,y⟩)
 obtain⟨l8,G⟩:∃l,l=l7++[en].flatMap (le 2):=⟨_,rfl⟩;rw[<- G] at y;have Tc:l8.length=46+pn+8*n:=by rw[G,qad,Kl];simp only[qau,qbt,qad,Ja2,qbo];omega
 have D:=zI y;have Kn:=zI G;clear y G Kl u z x0
 have KK:=zI (show l8=catH g i now P fl en from by
  rw[Kn.out,Km.out,Kk.out,Ki.out,Kg.out,Kd.out,Kb.out,H0.out,Hy.out,Hv.out];unfold catH;rw[show ByteArray.empty.toList=[] from by rw[qaw];rfl];simp only[qau,qbt,qck,qbp,qas])
 clear Kn Km Kk Ki Kg Kd Kb H0 Hy Hg Hf He Kf Hd Ka Hc f;have Ko:=zI t.out.hes;have C:=zI t.out.hes.len;have KL:=zI t.out.hok;have KM:=zI t.out.hi;rw[KK.out] at D;have z:=zI (D.out.bx q.out);have x0:=z.out.at_ 11 (v:= .slice E en ec) rfl;go_wp2_with fail
 clear x0 z;obtain⟨wo,Kp⟩:∃wo:World,wo=w18:=⟨_,rfl⟩;rw[<- Kp] at D ⊢;clear Kp;go_loopw [61] (fun j wr=>∃k:Nat,k<=en/\j= .int .i64 (k:Int)/\LayW w3 wr gp (catH g i now P fl en++((ms.map Em.e).take k).flatMap enB)) (fun j _=>en - (intOf j).toNat)
 case atStart=>exact⟨0,qaq _,rfl,by simpa using D.out⟩
 case round=>
  obtain⟨k,hk,rfl,hL⟩:=hrel;by_cases KN:k<en
  · have K:k<ms.length:=by rw[C.out];exact KN
    obtain⟨b,off,rfl,Td,KO⟩:=(Ko.out.below hL.below).get K;have p:=zI (KL.out _ (qan K));have Hh:=zI ((Ko.out.row _ (qan K)).1)
    have Hi:=zI (show catH g i now P fl en++((ms.map Em.e).take (k+1)).flatMap enB=catH g i now P fl en++((ms.map Em.e).take k).flatMap enB++enB ms[k].e from by
     rw[qam (by simpa using K),qav,qau,qbt,qbp,qbq,qas])
    have Kq:=zI (show(catH g i now P fl en++((ms.map Em.e).take k).flatMap enB).length+(enB ms[k].e).length<=40000 from by
     rw[<- qad,<- Hi.out];refine qax ?_ Hb.out;unfold catB;rw[qa4,C.out,qad,qad]
     have:(((ms.map Em.e).take (k+1)).flatMap enB).length<=((ms.map Em.e).flatMap enB).length:=by
      conv=>rhs;rw[<- qa8 (k+1) (ms.map Em.e),qav,qad]
      omega
     omega)
    generalize ms[k]'K=x at*;generalize catH g i now P fl en++((ms.map Em.e).take k).flatMap enB=m0 at*;obtain⟨⟨id,tier,shard,bl⟩,A5,c5⟩:=x;obtain⟨r0,r1,r2,r3,r4,r5⟩:=KO;dsimp only at r0 r1 r2 r3 r4 r5 p Hh Hi Kq;obtain⟨m,hm⟩:∃m,m=bl.length:=⟨_,rfl⟩;rw[<- hm] at r4 r5 Hh;have HM:=zI hm;have KP:1<=m/\m<=4096:=by rw[hm];exact p.out.len
    have Te:tier<=9:=p.out.tier;have Tf:shard<=7:=p.out.shard;have Tg:id<=i:=p.out.id.2;have Th:=KM.out
    have Tj:m0.length+(12+2*m)<=40000:=by
     have:=Kq.out;unfold enB at this;simp only[qad,Ja2] at this;rw[Je9 (fun b:Int=>le 2 b.toNat) 2 (fun a=>Ja2 2 _),<- HM.out] at this;omega
    have Kr:=(qaa wr.heap.size wr).alloc (qab _) (.cells #[.int .u64 (id:Int),.int .i64 (tier:Int),.int .i64 (shard:Int),.int .i64 0,.int .i64 (m:Int),.slice A5 m c5] 312);have hJ:=Bx.new wr 312 #[.int .u64 (id:Int),.int .i64 (tier:Int),.int .i64 (shard:Int),.int .i64 0,.int .i64 (m:Int),.slice A5 m c5];have Hj:=hL.then_below Kr;obtain⟨gb,Ha⟩:∃gb,gb=wr.heap.size:=⟨_,rfl⟩;obtain⟨we,Hk⟩:∃we,we=wr.alloc (.cells #[.int .u64 (id:Int),.int .i64 (tier:Int),.int .i64 (shard:Int),.int .i64 0,.int .i64 (m:Int),.slice A5 m c5] 312):=⟨_,rfl⟩;rw[<- Hk] at hJ Hj;rw[<- Ha] at hJ;have Hl:=zI (show gb≠gp from by rw[Ha];have:=hL.lt;omega);have KQ:=zI Hj;have Ks:=zI hJ;have KR:=zI Hk;have KS:=zI Ha;clear hm hL Kr hJ Hj Hk Ha;go_upto_region 19 with fail
    rw[<- KR.out,<- KS.out];clear r0 r1 r2 r3 r4 r5;have y0:=Ks.out.at_ 0 (v:= .int .u64 (id:Int)) rfl;have u:=zI (KQ.out.wordsK [id] 1 1 #[.int .u64 (id:Int)] rfl rfl (by omega));go_upto_region 20 with(go_at_call 260;refine u.out.mono ?_;rintro e wf ⟨rfl,y,s⟩)
    have Hm:=zI (s _ _ _ Hl.out (by decide) Ks.out);have KT:=zI y;clear y0 u y s;have y1:=Hm.out.at_ 1 (v:= .int .i64 (tier:Int)) rfl;have y2:=Hm.out.at_ 2 (v:= .int .i64 (shard:Int)) rfl;have u:=zI (KT.out.smallK 1 (.inl rfl) [tier,shard] (by intro v hv;simp at hv;rcases hv with rfl | rfl<;>omega) 2 2 #[.int .i64 (tier:Int),.int .i64 (shard:Int)] rfl rfl (by rw[qad];simp only[qau,qbt,qad,Ja2,qbo];omega))
    go_upto_region 21 with(go_at_call 175;refine u.out.mono ?_;rintro e wg ⟨rfl,y,s⟩)
    have Kt:=zI (s _ _ _ Hl.out (by decide) Hm.out);have KU:=zI y;clear y1 y2 u y s;have y5:=Kt.out.at_ 5 (v:= .slice A5 m c5) rfl;have u:=zI (KU.out.smallK 2 (.inr (.inl rfl)) [m] (by intro v hv;rw[qa1.1 hv];omega) 1 1 #[.int .i64 (m:Int)] rfl rfl (by simp only[qau,qbt,qad,Ja2,qbo];omega));go_upto_region 22 with(go_at_call 175;refine u.out.mono ?_;rintro e wh ⟨rfl,y,s⟩)
    have KV:=zI (s _ _ _ Hl.out (by decide) Kt.out);have KW:=zI y;clear y5 u y s;have y5:=KV.out.at_ 5 (v:= .slice A5 m c5) rfl;have u:=zI (KW.out.small_old 2 (.inr (.inl rfl)) A5 m c5 bl Hh.out KP.1 (fun v hv=>by have:=p.out.bl v hv;omega) (by simp only[qau,qbt,qad,Ja2,qbo];omega));go_upto_region 23 with(go_at_call 175;refine u.out.mono ?_;rintro e wi ⟨rfl,y⟩)
    have Ku:=zI y
    have KX:=zI (show m0++[id].flatMap (le 8)++[tier,shard].flatMap (le 1)++[m].flatMap (le 2)++(bl.flatMap fun v=>le 2 v.toNat)=catH g i now P fl en++((ms.map Em.e).take (k+1)).flatMap enB from by
     rw[Hi.out];unfold enB;dsimp only;rw[<- HM.out];simp only[qau,qbt,qbp,qas])
    rw[KX.out] at Ku;clear y5 u y;go_wp2_with fail
    go_roundw
    case rel=>exact⟨k+1,by omega,by go_num,Ku.out⟩
    case measure=>simp[intOf];omega
  · have Tk:k=en:=by omega
    have KY:=zI (show catH g i now P fl en++((ms.map Em.e).take k).flatMap enB=catB g i now P fl (ms.map Em.e) from by
     unfold catB;rw[qap (by rw[qa4,C.out];omega),qa4,C.out])
    rw[KY.out] at hL;have K9:=Hb.out;generalize hTT:catB g i now P fl (ms.map Em.e)=T at*;have KZ:=zI (show T=catB g i now (Py.printL nm.toList ts) fl (ms.map Em.e) from by rw[KG.out];exact hTT.symm);clear hTT;have Kv:=zI hL.len;have K7:=zI hL.done;have K8:=zI (Hs.out.trans (hL.below.mono Hs.out.size));have d1:decide ((40000:Int)<(T.length:Int))=false:=qae (by omega);have d2: ¬ (40000<T.length):=(by omega);clear hL;go_wp2_with fail
    refine Kv.out.mono ?_;rintro e wj ⟨rfl,hw⟩;subst hw;go_wp2_with fail
    refine K7.out.mono ?_;rintro e wj ⟨rfl,hw⟩;subst hw;go_wp2_with fail
    go_ret2;rw[<- KZ.out];exact⟨rfl,K8.out⟩
def blB (l:List Int):List UInt8:=l.flatMap fun b=>le 2 b.toNat
theorem Js6(l:List Int):(blB l).length=2*l.length:=by unfold blB;rw[Je9 (fun b:Int=>le 2 b.toNat) 2 (fun a=>Ja2 2 _)]
theorem Jlm(e:En)(r:List UInt8):enB e++r=le 8 e.id++(le 1 e.tier++(le 1 e.shard++(le 2 e.bl.length++(blB e.bl++r)))):=by unfold enB blB;simp only[qas]
theorem J8m(e:En):(enB e).length=12+2*e.bl.length:=by
 have:=congrArg List.length (Jlm e []);simp only[qad,Ja2,Js6,qbo,qdg] at this;omega
structure En.Fit (x:En):Prop where
 id:x.id<18446744073709551616
 tier:x.tier<=9
 shard:x.shard<=7
 len:x.bl.length<=4096
 bl:∀b∈x.bl,0<=b/\b<=4095
structure EnRd (w wr:World) (g:Nat) (ms:List Em) (v:Value):Prop where
 chg:Chg (fun b=>b=g) w wr
 own:wr.ownsRow w.heap.size 312 6 v ms.length (ms.flatMap Em.cells)
 row:∀m∈ms,wr.ownsRow w.heap.size 3 1 (.slice m.A m.e.bl.length m.c) m.e.bl.length (m.e.bl.map (Value.int .i64))
section
variable {w wr w':World} {g:Nat} {ms:List Em} {v v':Value}
theorem J09{wr:World}{B:Nat}{e:TypeId}{k n:Nat}{v:Value}{xs:List Value}(h:wr.ownsRow B e k v n xs){g:Nat}(hg:g<B):∀b,v.ownBlock=some b -> ¬ b=g:=fun b hb e=>by have:=(h.lt b hb).1;omega
theorem EnRd.step(h:EnRd w wr g ms v)(hc:Chg (fun b=>b=g) wr w')(hg:g<w.heap.size):EnRd w w' g ms v:=
 ⟨h.chg.trans hc (fun _ x=> .inl x),Jax h.own hc (fun b hb e=>by have:=(h.own.lt b hb).1;omega),fun m hm=>Jax (h.row m hm) hc (fun b hb e=>by have:=((h.row m hm).lt b hb).1;omega)⟩
theorem EnRd.snoc(h:EnRd w wr g ms v)(m:Em)(hm:wr.ownsRow w.heap.size 3 1 (.slice m.A m.e.bl.length m.c) m.e.bl.length (m.e.bl.map (Value.int .i64)))(hg:wr.grownBy w' v.ownBlock)(ho:w'.ownsRow w.heap.size 312 6 v' (ms.length+1) (ms.flatMap Em.cells++m.cells)):EnRd w w' g (ms++[m]) v':=by
 refine⟨h.chg.trans (Chg.of_grown (F:=fun b=>v.ownBlock=some b) hg (fun b e=>e)) (fun b hb=> .inr (h.own.lt b hb).1),?_,fun x z=> ?_⟩
 · rw[qad,qav]
   simpa using ho
 · have key:∀y:Em,wr.ownsRow w.heap.size 3 1 (.slice y.A y.e.bl.length y.c) y.e.bl.length (y.e.bl.map (Value.int .i64)) ->w'.ownsRow w.heap.size 3 1 (.slice y.A y.e.bl.length y.c) y.e.bl.length (y.e.bl.map (Value.int .i64)):=fun y hy=>
    hy.kept hg (Jhq hy h.own (by decide))
   rcases qbe.1 z with z | z
   · exact key x (h.row x z)
   · rw[qa1.1 z];exact key m hm
end
structure EnQ (wr wq:World) (g gb id tier shard m q:Nat) (A:Option Addr) (c:Nat) (zs:List Int):Prop where
 chg:Chg (fun b=>b=g) wr wq
 box:Bx wq gb 312 #[.int .u64 (id:Int),(tier:Int),(shard:Int),(0:Int),(m:Int),.slice A q c]
 row:wq.ownsRow wr.heap.size 3 1 (.slice A q c) q (zs.map (Value.int .i64))
 low:wr.heap.size<=gb
theorem EnQ.read{wr wq w':World}{g gb id tier shard m q:Nat}{A:Option Addr}{c:Nat}{zs:List Int}(h:EnQ wr wq g gb id tier shard m q A c zs)(hg:wq.grownBy w' (some g))(hlt:g<wr.heap.size):EnQ wr w' g gb id tier shard m q A c zs:=
 have z:Chg (fun b=>b=g) wq w':=Chg.of_grown hg (fun b e=>by cases e;rfl)
 ⟨h.chg.trans z (fun _ x=> .inl x),h.box.chg z (by have:=h.low;omega),Jax h.row z (J09 h.row hlt),h.low⟩
theorem EnQ.below{wr wq w':World}{g gb id tier shard m q:Nat}{A:Option Addr}{c:Nat}{zs:List Int}(h:EnQ wr wq g gb id tier shard m q A c zs)(hb:Below wq.heap.size wq w'):EnQ wr w' g gb id tier shard m q A c zs:=
 ⟨h.chg.then_below hb,h.box.below hb,Jaf h.row hb,h.low⟩
theorem EnQ.put{wr wq w1:World}{g gb id tier shard m q:Nat}{A A':Option Addr}{c c':Nat}{zs:List Int}{z:Int}(h:EnQ wr wq g gb id tier shard m q A c zs)(hg:wq.grownBy w1 (Value.slice A q c).ownBlock)(ho:w1.ownsRow wr.heap.size 3 1 (.slice A' (q+1) c') (q+1) (zs.map (Value.int .i64)++[.int .i64 z])):
  EnQ wr (w1.setCell ⟨gb,5,none⟩ (.slice A' (q+1) c')) g gb id tier shard m (q+1) A' c' (zs++[z]):=by
 have y:=h.box.grown hg (h.box.not_row h.row (by decide));have x:=Jam w1 gb 5 (.slice A' (q+1) c');refine⟨?_,y.set 5 _,?_,h.low⟩
 · exact(h.chg.trans (Chg.of_grown (F:=fun b=>(Value.slice A q c).ownBlock=some b) hg (fun b e=>e)) (fun b e=> .inr (h.row.lt b e).1)).trans (Chg.of_grown (F:=fun b=>b=gb) x (fun b e=>by cases e;rfl)) (fun b e=> .inr (by rw[e];exact h.low))
 · rw[qbg]
   exact ho.kept x (.inr fun e=>(y.not_row ho (by decide)) e.symm)
theorem Js7(g:Nat)(es:List En)(r:List UInt8)(w:World)(h:UnAt w g (le 2 es.length++(es.flatMap enB++r)))(hf:∀e∈es,e.Fit)(hn:es.length<=90)(hl:(es.flatMap enB++r).length<=800000):
  Cs 279 #[g] w fun e w'=>∃v ms,e= .returned v/\ms.map Em.e=es/\EnRd w w' g ms v/\UnAt w' g r:=by
 have Ks:g<w.heap.size:=h.bx.lt;have HF:=zI hf;have HS:=zI (Jcy g 2 es.length (es.flatMap enB++r) w h (.inr (.inl rfl)) (by omega) (by omega))
 have Kt:=zI (show ∀k,((es.drop k).flatMap enB++r).length<=800000 from fun k=>by
  refine qax ?_ hl;rw[qad,qad]
  conv=>rhs;rw[<- qa8 k es,qav,qad]
  omega)
 obtain⟨n,L⟩:=exE es.length;rw[<- L] at hn HS;have HN:=zI L;clear h hf hl L;go_enter Tryz.func279,Tryz.ntmps279;go_wp2_with fail
 refine HS.out.mono ?_;rintro e w1 ⟨rfl,Hk,Hl⟩;have Ku:=zI Hk;have J:=zI (show EnRd w w1 g [] () from⟨Chg.of_grown Hl (fun b e=>by cases e;rfl),qaz _ _ _ _,fun m hm=>by cases hm⟩);clear Hk Hl;go_wp2_with fail
 go_loopw [3,4] (fun v j wr=>∃ (k d:Nat) (ms:List Em),k+d=n/\j= .int .i64 (d:Int)/\ms.map Em.e=es.take k/\EnRd w wr g ms v/\UnAt wr g ((es.drop k).flatMap enB++r)) (fun _ j _=>(intOf j).toNat)
 case atStart=>exact⟨0,n,[],qa7 _,rfl,rfl,J.out,Ku.out⟩
 case round=>
  obtain⟨k,d,ms,hk,rfl,i,hR,y⟩:=hrel;have Kv:=zI (Jsl g _ wr y);by_cases Kw:k<n
  · obtain ⟨d',rfl⟩:∃d',d=d'+1:=⟨d - 1,by omega⟩
    have K:k<es.length:=by rw[<- HN.out];exact Kw
    have HD:=zI (show(es.drop k).flatMap enB++r=enB es[k]++((es.drop (k+1)).flatMap enB++r) from by rw[qbm K,qau,qas]);have o:=zI (HF.out _ (qan K));have Kx:=zI (show es.take (k+1)=es.take k++[es[k]] from qam K);have f:=zI (Kt.out k);have d0:decide ((0:Int)<(d':Int)+1)=true:=qaj (by omega);rw[HD.out] at y f;generalize es[k]'K=x at*;obtain⟨R,I⟩:=exE ((es.drop (k+1)).flatMap enB++r);rw[<- I] at y f;have Ky:=zI I;clear I;rw[Jlm] at y;rw[Jlm] at f;obtain⟨R4,H⟩:=exE (blB x.bl++R);obtain⟨R3,V⟩:=exE (le 2 x.bl.length++R4);obtain⟨R2,U⟩:=exE (le 1 x.shard++R3);obtain⟨R1,T⟩:=exE (le 1 x.tier++R2);rw[<- H,<- V,<- U,<- T] at y f;have Hm:R1.length<=800000:=by have:=f.out;rw[qad] at this;omega
    have G:R2.length<=800000:=by rw[T,qad] at Hm;omega
    have E:R3.length<=800000:=by rw[U,qad] at G;omega
    have Hn:R4.length<=800000:=by rw[V,qad] at E;omega
    have Kz:=zI G;have KC:=zI E;have Ho:=zI Hn;have J:=zI T;have KD:=zI U;have KE:=zI V;have Hp:=zI H;have HW:=zI (Jia g x.id R1 wr y o.out.id (by omega));have D:=zI hR;have Hq:=zI i;clear y hR i Hm G E Hn T U V H;go_wp2_with fail
    refine Kv.out.mono ?_;rintro e w2 ⟨rfl,hw⟩;subst hw;go_wp2_with fail
    refine HW.out.mono ?_;rintro e w2 ⟨rfl,C,Hr⟩;rw[J.out] at C;have HT:=zI (Jcy g 1 x.tier R2 w2 C (.inl rfl) (by have:=o.out.tier;omega) (by have:=Kz.out;omega));have Hs:=zI (Chg.of_grown (F:=fun b=>b=g) Hr (fun b e=>by cases e;rfl));clear C Hr;go_wp2_with fail
    refine HT.out.mono ?_;rintro e w3 ⟨rfl,B,Ht⟩;rw[KD.out] at B;have Hu:=zI (Jcy g 1 x.shard R3 w3 B (.inl rfl) (by have:=o.out.shard;omega) (by have:=KC.out;omega));have Hv:=zI (Hs.out.trans (Chg.of_grown (F:=fun b=>b=g) Ht (fun b e=>by cases e;rfl)) (fun _ x=> .inl x));clear B Ht;go_wp2_with fail
    refine Hu.out.mono ?_;rintro e w4 ⟨rfl,hJ,Hw⟩;rw[KE.out] at hJ;have Ha:=Hv.out.trans (Chg.of_grown (F:=fun b=>b=g) Hw (fun b e=>by cases e;rfl)) (fun _ x=> .inl x);have t:=(qaa w4.heap.size w4).alloc (qab _) (.cells #[.int .u64 (x.id:Int),(x.tier:Int),(x.shard:Int),(0:Int),(0:Int),()] 312);have S:=Bx.new w4 312 #[.int .u64 (x.id:Int),(x.tier:Int),(x.shard:Int),(0:Int),(0:Int),()];obtain⟨gb,P⟩:=exE w4.heap.size;obtain⟨w5,Hb⟩:=exE (w4.alloc (.cells #[.int .u64 (x.id:Int),(x.tier:Int),(x.shard:Int),(0:Int),(0:Int),()] 312));have KG:=zI P;have KH:=zI Hb;rw[<- Hb] at t S;rw[<- P] at S;obtain⟨m,hm⟩:=exE x.bl.length;have HM:=zI hm;have Hc:=hJ.below t;rw[<- hm] at Hc;have Hx:=zI (Jcy g 2 m R4 w5 Hc (.inr (.inl rfl)) (by have:=o.out.len;omega) (by have:=Ho.out;omega));have Hy:=zI S;have Hz:=zI (Ha.then_below t);have H0:=zI (show wr.heap.size<=gb from by rw[P];exact Ha.size);clear hJ Hw Ha t S P Hb hm Hc;go_upto_region 6 with fail
    rw[<- KH.out];rw[<- KG.out];go_wp2_with fail
    refine Hx.out.mono ?_;rintro e w6 ⟨rfl,H9,Hd⟩;have He:=H0.out;have Ka:=D.out.chg.size;have O:=Hy.out.grown Hd (by simp;omega);have x4:=O.at_ 4 (v:= (0:Int)) rfl;have f4:=O.free 4
    have Hf:=zI (show EnQ wr (w6.setCell ⟨gb,4,none⟩ (m:Int)) g gb x.id x.tier x.shard m 0 none 0 [] from
     ⟨(Hz.out.trans (Chg.of_grown (F:=fun b=>b=g) Hd (fun b e=>by cases e;rfl)) (fun _ x=> .inl x)).trans (Chg.set (F:=fun b=>b=gb) w6 ⟨gb,4,none⟩ _ rfl) (fun b e=> .inr (by rw[e];exact He)),O.set 4 _,qaz _ _ _ _,He⟩)
    have Kb:=zI (show UnAt (w6.setCell ⟨gb,4,none⟩ (m:Int)) g (blB x.bl++R) from⟨by have:=H9.bx.other (p:=⟨gb,4,none⟩) (by show g≠gb;omega) (m:Int);rw[Hp.out] at this;exact this⟩);have Tc:=zI o.out.len;have Td:m<=4096:=by rw[HM.out];exact o.out.len
    clear H9 Hd O Hx Hy Hz HT HW Hu Hs Hv;go_wp2_with fail
    obtain⟨w7,Kc⟩:=exE (w6.setCell ⟨gb,4,none⟩ (m:Int));rw[<- Kc] at Hf Kb ⊢;clear Kc x4 f4;obtain⟨wo,Kd⟩:=exE wr;rw[<- Kd] at Hf D He Ka H0;clear Kd;go_loopw [6] (fun j wq=>∃ (q:Nat) (A:Option Addr) (c:Nat),q<=m/\j= .int .i64 (q:Int)/\EnQ wo wq g gb x.id x.tier x.shard m q A c (x.bl.take q)/\UnAt wq g (blB (x.bl.drop q)++R)) (fun j _=>m - (intOf j).toNat)
    case atStart=>exact⟨0,none,0,qaq _,rfl,Hf.out,Kb.out⟩
    case round=>
     obtain⟨q,A,c,hq,rfl,l,y⟩:=hrel;have t4:=l.box.at_ 4 (v:= (m:Int)) rfl;by_cases KI:q<m
     · have Q:q<x.bl.length:=by rw[<- HM.out];exact KI
       have Ke:=zI (Jsl g _ wr y);have KJ:=zI (show x.bl.take (q+1)=x.bl.take q++[x.bl[q]] from qam Q)
       have KK:=zI (show blB (x.bl.drop q)++R=le 2 (x.bl[q]).toNat++(blB (x.bl.drop (q+1))++R) from by
        rw[qbm Q];unfold blB;rw[qau,qas])
       have Kf:=zI (show(blB (x.bl.drop (q+1))++R).length<=800000 from by
        have h4:=Ho.out;rw[Hp.out,qad,Js6] at h4;rw[qad,Js6,qa2];omega)
       have HZ:=o.out.bl _ (qan Q);rw[KK.out] at y;generalize x.bl[q]'Q=z at*;obtain⟨z',rfl⟩:∃z':Nat,z=(z':Int):=⟨z.toNat,by omega⟩;rw[qc3] at y;obtain⟨RR,Hg⟩:=exE (blB (x.bl.drop (q+1))++R);rw[<- Hg] at y Kf;have KL:=zI Hg;clear Hg;have Hh:=(qaa wr.heap.size wr).drew;have Kg:=zI (l.below Hh);have KM:=zI (y.below Hh);have t5:=l.box.at_ 5 (v:= .slice A q c) rfl;have t5':=Kg.out.box.at_ 5 (v:= .slice A q c) rfl;have KN:=zI (Jcy g 2 z' RR wr.drew KM.out (.inr (.inl rfl)) (by omega) (by have:=Kf.out;omega));have KO:=zI (show q+1<=1000000 from by omega);have KP:=zI (show g<wo.heap.size from by omega);clear l y Hh;go_wp2_with fail
       refine Ke.out.mono ?_;rintro e w8 ⟨rfl,hw⟩;subst hw;go_wp2_with fail
       go_region_law (first
        | (refine Jye (by rfl) _ _ (by rfl) s.out.row (by rfl) (some ⟨w8.heap.size,0,none⟩) 1 1 [(z':Int)] (by rfl) rfl N.out a.out KO.out KQ.out ?_
           intro A7 c7 w9 Kh M;have X9:=zI (s.out.box.grown M (s.out.box.not_row s.out.row (by decide)));have U9:=zI (Ki.out.bx.grown M (Ki.out.bx.not_row s.out.row (by decide)));have d8:=X9.out.at_ 5 (v:= .slice A q c) rfl;have f8:=X9.out.free 5)
        | (go_simp
           go_at_call 140
           refine KN.out.mono ?_;rintro e w8 ⟨rfl,Kj,Kk⟩;have Z:=(qaa w8.heap.size w8).alloc (qab _) (.cells #[(z':Int)] 3);have Kl:=zI (Kg.out.read Kk KP.out);have s:=zI (Kl.out.below Z);have Ki:=zI (Kj.below Z);have N:=zI (Sl.new w8 3 w8.heap.size [(z':Int)] #[(z':Int)] rfl rfl);have a:=zI (show ∀u∈[Value.int .i64 (z':Int)],u.oneCell'=true from by intro u hu;rw[qa1.1 hu];rfl);have KQ:=zI (show wo.heap.size<=(w8.alloc (.cells #[(z':Int)] 3)).heap.size from s.out.chg.size);have d6:=Kl.out.box.at_ 5 (v:= .slice A q c) rfl;have d7:=s.out.box.at_ 5 (v:= .slice A q c) rfl;clear Kj Kk Z))
       all_goals
        have Km:=zI (s.out.put M Kh);rw[<- KJ.out] at Km;have Y:=zI (show UnAt (w9.setCell ⟨gb,5,none⟩ (.slice A7 (q+1) c7)) g RR from⟨U9.out.other (p:=⟨gb,5,none⟩) (by show g≠gb;omega) _⟩);rw[KL.out] at Y;clear Kh M;go_wp2_with fail
        go_roundw
        case rel=>exact⟨q+1,A7,c7,by omega,by go_num,Km.out,Y.out⟩
        case measure=>simp[intOf];omega
     · have KR:q=m:=by omega
       subst KR;have KS:=zI (show x.bl.take q=x.bl from by rw[HM.out,qca]);have KT:=zI (show blB (x.bl.drop q)++R=R from by rw[HM.out,List.drop_length];rfl);rw[KS.out] at l;rw[KT.out] at y;have t:=(qaa wr.heap.size wr).alloc (qab _) (.cells (Em.cells ⟨x,A,c⟩).toArray 312);have Kn:=zI (l.below t);have Hi:=zI (y.below t);have W:=zI (D.out.step (l.chg.then_below t) Ks);have Ko:=zI (show Em.cells ⟨x,A,c⟩=[.int .u64 (x.id:Int),.int .i64 (x.tier:Int),.int .i64 (x.shard:Int),.int .i64 0,.int .i64 (q:Int),.slice A q c] from by unfold Em.cells;dsimp only;rw[<- HM.out]);have N:=zI (Sl.new wr 312 wr.heap.size (Em.cells ⟨x,A,c⟩) (Em.cells ⟨x,A,c⟩).toArray rfl rfl);have a:=zI (Jz5 [⟨x,A,c⟩]);have KU:=zI (show([⟨x,A,c⟩]:List Em).flatMap Em.cells=Em.cells ⟨x,A,c⟩ from by simp);rw[KU.out] at a;have t0:=l.box.at_ 0 (v:= .int .u64 (x.id:Int)) rfl;have t1:=l.box.at_ 1 (v:= (x.tier:Int)) rfl;have t2:=l.box.at_ 2 (v:= (x.shard:Int)) rfl;have t3:=l.box.at_ 3 (v:= (0:Int)) rfl;have t5:=l.box.at_ 5 (v:= .slice A q c) rfl;have KV:=zI (show ms.length=k from by have:=congrArg List.length Hq.out;rw[qa4,qao] at this;omega);have KW:=zI (show ms.length+1<=1000000 from by have:=KV.out;omega);have Kp:=zI (show w.heap.size<=(wr.alloc (.cells (Em.cells ⟨x,A,c⟩).toArray 312)).heap.size from W.out.chg.size);have Kq:=zI (show(Em.cells ⟨x,A,c⟩).length=1*6 from rfl);rw[Ko.out] at W N a Kn Hi Kp Kq;clear l y t;go_wp2_with (at_builtin;refine Jyg rfl _ _ rfl W.out.own rfl (some ⟨wr.heap.size,0,none⟩) 1 1 _ rfl Kq.out N.out a.out KW.out Kp.out ?_;intro A' c' w5 Kr Hj)
       have KX:=zI (W.out.snoc (v':= .slice A' (ms.length+1) c') ⟨x,A,c⟩ (by dsimp only;rw[<- HM.out];exact Jde Kn.out.row Ka) Hj (by rw[Ko.out];exact Kr));have Y:=zI (show UnAt w5 g R from⟨Hi.out.bx.grown Hj (Hi.out.bx.not_row W.out.own (by decide))⟩);rw[Ky.out] at Y;clear Kr Hj t0 t1 t2 t3 t5 t4;go_wp2_with fail
       go_roundw
       case rel=>exact⟨k+1,d',ms++[⟨x,A,c⟩],by omega,by go_num,by rw[qbg,Hq.out,Kx.out];rfl,KX.out,Y.out⟩
       case measure=>simp[intOf]
  · have KY:d=0:=by omega
    subst KY;have KZ:k=n:=(by omega);subst KZ;have K7:=zI (show es.take k=es from by rw[HN.out,qca]);have K8:=zI (show(es.drop k).flatMap enB++r=r from by rw[HN.out,List.drop_length];rfl);rw[K8.out] at y;rw[K7.out] at i;have K9:=zI hR;have Ta:=zI y;have Tb:=zI i;clear hR y i;go_wp2_with fail
    go_ret;exact⟨_,ms,rfl,Tb.out,K9.out,Ta.out⟩
abbrev catG (g i:Nat) (now:Int) (nm:ByteArray) (A:Option Addr) (n c:Nat) (B:Option Addr) (q c2:Nat) (E:Option Addr) (en ec:Nat):Array Value:=
 #[.int .u64 (g:Int),.int .u64 (i:Int),(now:Int),nm,.slice A n c,.slice B q c2,.string ⟨#[]⟩,(),(),(0:Int),(0:Int),.slice E en ec]
abbrev zCat:Array Value:=#[.int .u64 0,.int .u64 0,(0:Int),.string ⟨#[]⟩,(),(),.string ⟨#[]⟩,(),(),(0:Int),(0:Int),()]
structure CgS (w7 wr:World) (gu gc gr:Nat) (l:List UInt8) (cs:Array Value):Prop where
 un:UnAt wr gu l
 box:Bx wr gc 207 cs
 res:Bx wr gr 207 zCat
 chg:Chg (fun b=>b=gu\/b=gc) w7 wr
 ne:gr≠gu/\gr≠gc/\gu≠gc
section
variable {w7 wr w':World} {gu gc gr:Nat} {l r:List UInt8} {cs:Array Value}
theorem CgS.read(h:CgS w7 wr gu gc gr l cs)(hu:UnAt w' gu r)(hg:wr.grownBy w' (some gu)):CgS w7 w' gu gc gr r cs:=
 ⟨hu,h.box.grown hg (by have:=h.ne;simp;omega),h.res.grown hg (by have:=h.ne;simp;omega),h.chg.trans (Chg.of_grown (F:=fun b=>b=gu) hg (fun b e=>by cases e;rfl)) (fun b e=> .inl (.inl e)),h.ne⟩
theorem CgS.readC(h:CgS w7 wr gu gc gr l cs)(hu:UnAt w' gu r)(hg:Chg (fun b=>b=gu) wr w'):CgS w7 w' gu gc gr r cs:=
 ⟨hu,h.box.chg hg (by have:=h.ne;omega),h.res.chg hg (by have:=h.ne;omega),h.chg.trans hg (fun b e=> .inl (.inl e)),h.ne⟩
theorem CgS.below(h:CgS w7 wr gu gc gr l cs)(hb:Below wr.heap.size wr w'):CgS w7 w' gu gc gr l cs:=⟨h.un.below hb,h.box.below hb,h.res.below hb,h.chg.then_below hb,h.ne⟩
theorem CgS.row(h:CgS w7 wr gu gc gr l cs){B:Nat}{e:TypeId}{k n:Nat}{v:Value}{xs:List Value}(ho:wr.ownsRow B e k v n xs)(hg:wr.grownBy w' v.ownBlock)(hB:w7.heap.size<=B)(h3:330≠e)(h4:207≠e):CgS w7 w' gu gc gr l cs:=
 ⟨⟨h.un.bx.grown hg (h.un.bx.not_row ho h3)⟩,h.box.grown hg (h.box.not_row ho h4),h.res.grown hg (h.res.not_row ho h4),h.chg.trans (Chg.of_grown (F:=fun b=>v.ownBlock=some b) hg (fun _ e=>e)) (fun b e=> .inr (qax hB (ho.lt b e).1)),h.ne⟩
theorem CgS.re(h:CgS w7 wr gu gc gr l cs):CgS wr wr gu gc gr l cs:=⟨h.un,h.box,h.res,Chg.refl _ _,h.ne⟩
theorem CgS.set(h:CgS w7 wr gu gc gr l cs)(k:Nat)(v:Value):CgS w7 (wr.setCell ⟨gc,k,none⟩ v) gu gc gr l (cs.setIfInBounds k v):=
 ⟨⟨h.un.bx.other (p:=⟨gc,k,none⟩) (by have:=h.ne;show gu≠gc;omega) v⟩,h.box.set k v,h.res.other (p:=⟨gc,k,none⟩) (by have:=h.ne;show gr≠gc;omega) v,h.chg.trans (Chg.set (F:=fun b=>b=gc) wr ⟨gc,k,none⟩ v rfl) (fun b e=> .inl (.inr e)),h.ne⟩
end
structure Jik (g i:Nat) (now:Int) (nm:ByteArray) (ts:List Ti) (fl:List Int) (es:List En):Prop where
 hg:1<=g/\g<18446744073709551616
 hi:i<18446744073709551616
 hnow:0<=now/\now<=1099511627776
 hnm:nm.size<=maxLen
 hck:Py.checkR nm.toList ts=(0,0)
 hfn:fl.length=ts.length
 hflo:∀f∈fl,0<=f/\f<=4611686018427387904
 hen:es.length<=90
 hok:∀e∈es,e.Ok i
 hsh:(es.map fun e=>plit (e.tier:Int) (e.shard:Int)).Nodup
 hbl:(es.flatMap En.bl).Nodup
 hlen:(catB g i now (Py.printL nm.toList ts) fl es).length<=40000
theorem En.Ok.fit{x:En}{i:Nat}(h:x.Ok i)(hi:i<18446744073709551616):x.Fit:=⟨by have:=h.id;omega,h.tier,h.shard,h.len.2,h.bl⟩
theorem Js8(ms:List Em):shK ms=(ms.map Em.e).map fun e=>plit (e.tier:Int) (e.shard:Int):=by unfold shK;rw[qcl];rfl
theorem Jln(ms:List Em):Jej ms=(ms.map Em.e).flatMap En.bl:=by unfold Jej;rw[qdp]
theorem EnRd.ems{w wr:World}{g:Nat}{ms:List Em}{v:Value}(h:EnRd w wr g ms v)(hok:∀m∈ms,(∀b∈m.e.bl,0<=b/\b<=4095)/\m.e.bl.length<=4096):∃E ec,v= .slice E ms.length ec/\Jid wr (made w wr) E ms.length ms:=by
 obtain⟨E,ec,rfl,x⟩:=Jao h.own;refine⟨E,ec,rfl,x,rfl,fun m hm=>⟨?_,Jck (h.row m hm)⟩,Jck h.own⟩;obtain⟨_,_,e,y⟩:=Jao (h.row m hm);cases e
 exact⟨y,rfl,by have:=(hok m hm).2;unfold maxLen;omega,fun z hz=>Jcd (by have:=(hok m hm).1 z hz;omega)⟩
theorem J1a(nm:ByteArray)(ts:List Ti)(n:Nat)(S:ByteArray)(w:World)(hS:S=strOf (Py.printL nm.toList ts))(hn:n=ts.length)(hck:Py.checkR nm.toList ts=(0,0))(hm:∃m:Int,w.cell? ⟨0,0,none⟩=some (.int .i64 m)):
  Cs 39 #[S] w fun e w'=>(∃A c,e= .returned (.tuple #[polV nm A n c,(0:Int),(0:Int)])/\Tis w' A n ts/\n<=c/\AIn (made w w') A)/\Below w.heap.size w w':=by
 subst hS hn;obtain⟨z,u,y,x,_⟩:=Py.check_fine hck;have X:=Py.read_any (strOf (Py.printL nm.toList ts)) w (by rw[Jaa];have:=Py.print_len z x y;unfold maxLen;omega) hm;rw[show strOf (Py.printL nm.toList ts)=⟨(Py.printL nm.toList ts).toArray⟩ from rfl,Py.readT_print hck] at X;refine X.mono fun e w' ⟨⟨A,c,he,ho,hok,_,_⟩,hb⟩=>⟨⟨A,c,?_,?_,?_,Jck ho⟩,hb⟩
 · rw[he,Py.mk_toList]
 · obtain⟨A',c',e,v⟩:=Jis ho rfl hok (by unfold maxLen;omega);cases e;exact v
 · obtain⟨_,_,e,h,_⟩:=Py.own_slice ho;cases e;exact h
theorem J8n(g i:Nat)(now:Int)(nm:ByteArray)(ts:List Ti)(fl:List Int)(es:List En)(w:World)(hf:Jik g i now nm ts fl es)(hG:Glo w):
  Cs 213 #[(strOf (catB g i now (Py.printL nm.toList ts) fl es))] w fun e w'=>∃A c B c2 E ec ms,e= .returned (.tuple #[.agg (Ja1 g i now nm A ts.length c B c2 E es.length ec),(0:Int)])/\ms.map Em.e=es/\
   Jgz w' (made w w') g i now nm A ts.length c B c2 E es.length ec ts fl ms/\AIn (made w w') A/\AIn (made w w') B/\Below w.heap.size w w':=by
 have L:=zI hf;obtain⟨P,hP⟩:=exE (Py.printL nm.toList ts);have KH:P.length<=400:=by rw[hP];have:=Py.check_fine hf.hck;exact Py.print_len this.1 this.2.2.2.1 this.2.2.1
 obtain⟨n,hn⟩:=exE ts.length;obtain⟨en,d⟩:=exE es.length;have Pu:1<=n/\n<=5:=by rw[hn];have:=Py.check_fine hf.hck;exact⟨this.2.1,this.2.2.1⟩
 have Pq:en<=90:=by rw[d];exact hf.hen
 have KI:fl.length=n:=by rw[hn];exact hf.hfn
 obtain⟨L8,h8⟩:=exE (le 2 es.length++(es.flatMap enB++[]));obtain⟨L7,h7⟩:=exE (le 8 (u64 0)++L8);obtain⟨L6,h6⟩:=exE (le 8 (u64 0)++L7);obtain⟨L5,h5⟩:=exE (txB []++L6);obtain⟨L4,h4⟩:=exE ((fl.flatMap fun v=>le 8 (u64 v))++L5);obtain⟨L3,h3⟩:=exE (txB P++L4);obtain⟨L2,J⟩:=exE (le 8 (u64 now)++L3);obtain⟨L1,K⟩:=exE (le 8 i++L2)
 have hL:catB g i now (Py.printL nm.toList ts) fl es=le 8 g++L1:=by
  rw[K,J,h3,h4,h5,h6,h7,h8,<- hP];unfold catB catH;simp only[qas,qbp]
 have I:=hf.hlen;rw[hL] at I;have k1:L1.length<=40000:=by rw[qad] at I;omega
 have k2:L2.length<=40000:=by rw[K,qad] at k1;omega
 have k3:L3.length<=40000:=by rw[J,qad] at k2;omega
 have k4:L4.length<=40000:=by rw[h3,qad] at k3;omega
 have k5:L5.length<=40000:=by rw[h4,qad] at k4;omega
 have k6:L6.length<=40000:=by rw[h5,qad] at k5;omega
 have k7:L7.length<=40000:=by rw[h6,qad] at k6;omega
 have k8:L8.length<=40000:=by rw[h7,qad] at k7;omega
 have TB:=zI k1;have TC:=zI k2;have TD:=zI k3;have TE:=zI k4;have TF:=zI k5;have TG:=zI k6;have TH:=zI k7;have KJ:=zI k8;have H1:=zI K;have H2:=zI J;have H3:=zI h3;have H4:=zI h4;have H5:=zI h5;have H6:=zI h6;have H7:=zI h7;have H8:=zI h8;have HP:=zI hP;have HN:=zI hn;have Kh:=zI d;have O:=zI KI;have TI:=zI hL;have TJ:=zI KH;obtain⟨gr,Ki⟩:=exE w.heap.size;obtain⟨w0,Ho⟩:=exE (w.alloc (.cells zCat 207));have KK:Below w.heap.size w w0:=by rw[Ho];exact(qaa _ w).alloc (qab _) _
 have KL:Bx w0 gr 207 zCat:=by rw[Ho,Ki];exact Bx.new w _ _
 have H:=zI Ki;have TK:=zI Ho;have KM:=zI KK;have KN:=zI KL;have Kj:=zI hG;have KO:=zI (Jqa (le 8 g++L1) w0 (by omega));rw[<- hn,<- d,hL];obtain⟨SS,Kk⟩:=exE (strOf (le 8 g++L1));rw[<- Kk] at KO ⊢;have TL:=zI Kk;clear hf hP KH hn d KI K J h3 h4 h5 h6 h7 h8 hL I k1 k2 k3 k4 k5 k6 k7 k8 Ho KK KL Ki hG Kk;go_enter Tryz.func213,Tryz.ntmps213;go_upto_region 1 with fail
 rw[<- TK.out,<- H.out];go_wp2_with fail
 refine KO.out.mono ?_;rintro e w1 ⟨gu,rfl,Hx,KP,Kl⟩;have TM:=zI (KN.out.below Kl);have TN:=zI (KM.out.trans (Kl.mono KM.out.size));have Hp:=zI (show gr<gu from qar KN.out.lt Hx);have HW:=zI (Jia gu g L1 w1 KP L.out.hg.2 (by have:=TB.out;omega));clear Hx KP Kl;go_wp2_with fail
 refine HW.out.mono ?_;rintro e w2 ⟨rfl,Km,KQ⟩;rw[H1.out] at Km;have TO:=zI (Jia gu i L2 w2 Km L.out.hi (by have:=TC.out;omega));have TP:=zI (Chg.of_grown (F:=fun b=>b=gu) KQ (fun b e=>by cases e;rfl));clear Km KQ;go_wp2_with fail
 refine TO.out.mono ?_;rintro e w3 ⟨rfl,Kn,KR⟩;rw[H2.out] at Kn;have TQ:=zI (Jk9 gu now L3 w3 Kn (by have:=L.out.hnow;omega) (by have:=TD.out;omega));have TR:=zI (TP.out.trans (Chg.of_grown (F:=fun b=>b=gu) KR (fun b e=>by cases e;rfl)) (fun _ x=> .inl x));clear Kn KR;go_wp2_with fail
 refine TQ.out.mono ?_;rintro e w4 ⟨rfl,Ko,KS⟩;have KT:=zI (TR.out.trans (Chg.of_grown (F:=fun b=>b=gu) KS (fun b e=>by cases e;rfl)) (fun _ x=> .inl x));have Pr:gu<w4.heap.size:=Ko.bx.lt;have Z:=(qaa w4.heap.size w4).alloc (qab _) (.cells (catG g i now ⟨#[]⟩ none 0 0 none 0 0 none 0 0) 207);obtain⟨gc,Kp⟩:=exE w4.heap.size;obtain⟨w5,N⟩:=exE (w4.alloc (.cells (catG g i now ⟨#[]⟩ none 0 0 none 0 0 none 0 0) 207));have TT:=Hp.out
 have KU:CgS w5 w5 gu gc gr L3 (catG g i now ⟨#[]⟩ none 0 0 none 0 0 none 0 0):=by
  have TU:=TM.out.chg KT.out (by omega);refine⟨?_,?_,?_,Chg.refl _ _,by omega,by omega,by omega⟩
  · rw[N];exact Ko.below Z
  · rw[N,Kp];exact Bx.new w4 _ _
  · rw[N];exact TU.below Z
 have Hq:=zI (show Below w.heap.size w w5 from by
  rw[N];exact(Chg.after_below (F:=fun _=>False) TN.out (KT.out.then_below Z) (fun b e=> .inr (by rw[e];have:=Hp.out;have:=H.out;omega))).none)
 have Pv:=zI (Kj.out.below Hq.out);have KV:=zI Kp;have TV:=zI N;have KW:=zI KU;clear Ko KS Z N Kp KU;go_upto_region 3 with fail
 rw[<- TV.out,<- KV.out];have Hr:=zI (show ∀b,(b=gu\/b=gc) ->w.heap.size<=b from fun b hb=>by have K:=Hp.out;have J:=H.out;have h3:=KV.out;rcases hb with e | e<;>omega)
 have TW:=zI (Jp9 gu P L4 w5 (by rw[<- H3.out];exact KW.out.un) (by have:=TJ.out;omega) (by have:=TE.out;omega));go_wp2_with fail
 refine TW.out.mono ?_;rintro e w6 ⟨rfl,KX,KY⟩;have Y:=zI (KW.out.read KX KY);have TX:=zI (J1a nm ts n (strOf P) w6 (by rw[HP.out]) HN.out L.out.hck (Kj.out.below (Chg.madeF Hq.out Y.out.chg Hr.out)).m);clear KX KY;go_wp2_with fail
 refine TX.out.mono ?_;rintro e w7 ⟨⟨A,c,rfl,KZ,K7,Hs⟩,Kq⟩;have Z:=(qaa w7.heap.size w7).alloc (qab _) (.cells #[nm,.slice A n c] 101);obtain⟨gp,Kr⟩:=exE w7.heap.size;obtain⟨w8,Ht⟩:=exE (w7.alloc (.cells #[nm,.slice A n c] 101));have Hu:=(Y.out.below Kq).below Z;have Ks:Bx (w7.alloc (.cells #[nm,.slice A n c] 101)) gp 101 #[nm,.slice A n c]:=by rw[Kr];exact Bx.new w7 _ _
 have Kt:=KZ.below Z;rw[<- Ht] at Hu Ks Kt;have TY:=zI Kr;have TZ:=zI Ht;have h:=zI Hu.re;have T6:=zI (show w7.heap.size<=w8.heap.size from by rw[Ht];simp);have Hv:=zI (Chg.madeF Hq.out Hu.chg Hr.out);have Ku:=zI Ks;have K8:=zI Kt;have K9:=zI K7
 have Ta:=zI (show AIn (fun b=> ¬ (b=gu\/b=gc)) A from fun a e=>by
  have K:=(Hs a e).1;have J:=Y.out.un.bx.lt;have h3:=Y.out.box.lt;rintro(e | e)<;>omega)
 have T7:=zI (show AIn (fun b=> ¬ b=gr) A from fun a e=>by
  have K:=(Hs a e).1;have J:=Y.out.res.lt;omega)
 have T8:=zI (show ∀W,w7.heap.size<=W.heap.size ->AIn (made w W) A from fun W hW a e=>by
  have K:=Hs a e;have J:=(Chg.madeF Hq.out Y.out.chg Hr.out).size;exact⟨by have:=K.1;omega,by have:=K.2;omega⟩)
 have Hy:=zI (show gp≠gc/\gp≠gu from by
  have J:=Y.out.un.bx.lt;have h3:=Y.out.box.lt;have h4:=Kq.size;omega)
 clear KZ K7 Hs Kq Z Kr Ht Hu Ks Kt;go_upto_region 4 with fail
 rw[<- TZ.out,<- TY.out];have p0:=Ku.out.at_ 0 (v:= nm) rfl;have p1:=Ku.out.at_ 1 (v:= .slice A n c) rfl;have f3:=h.out.box.free 3;have x3:=h.out.box.at_ 3 (v:= .string ⟨#[]⟩) rfl;have x4:=h.out.box.at_ 4 (v:= ()) rfl;have f4:=h.out.box.free 4;have Tb:=(h.out.set 3 nm).set 4 (.slice A n c);have Kv:=(Ku.out.other (p:=⟨gc,3,none⟩) Hy.out.1 nm).other (p:=⟨gc,4,none⟩) Hy.out.1 (.slice A n c);have Kw:=zI Tb;have T9:=zI Kv;have q1:=Kv.at_ 1 (v:= .slice A n c) rfl;clear Tb Kv;go_wp2_with fail
 clear q1 p0 p1 f3 f4 x3 x4;obtain⟨w9,Tc⟩:=exE ((w8.setCell ⟨gc,3,none⟩ (nm:ByteArray)).setCell ⟨gc,4,none⟩ (.slice A n c));rw[<- Tc] at Kw T9 ⊢;clear Tc;have Td:=zI (show CgS w8 w9 gu gc gr (fl.flatMap (fun v=>le 8 (u64 v))++L5) (catG g i now nm A n c none 0 0 none 0 0) from by rw[<- H4.out];exact Kw.out);clear Kw;go_loopw [34] (fun j wr=>∃ (q:Nat) (B:Option Addr) (c2:Nat),q<=n/\j= .int .i64 (q:Int)/\CgS w8 wr gu gc gr ((fl.drop q).flatMap (fun v=>le 8 (u64 v))++L5) (catG g i now nm A n c B q c2 none 0 0)/\wr.ownsRow w8.heap.size 3 1 (.slice B q c2) q ((fl.take q).map (Value.int .i64))) (fun j _=>n - (intOf j).toNat)
 case atStart=>exact⟨0,none,0,qaq _,rfl,Td.out,qaz _ _ _ _⟩
 case round=>
  obtain⟨q,B,c2,hq,rfl,hS,hR⟩:=hrel;by_cases Pa:q<n
  · have Q:q<fl.length:=by rw[O.out];exact Pa
    have Te:=zI (show(fl.drop q).flatMap (fun v=>le 8 (u64 v))++L5=le 8 (u64 fl[q])++((fl.drop (q+1)).flatMap (fun v=>le 8 (u64 v))++L5) from by rw[qbm Q,qau,qas]);have Pb:=zI (show fl.take (q+1)=fl.take q++[fl[q]] from qam Q);have HZ:=zI (L.out.hflo _ (qan Q))
    have Tf:=zI (show((fl.drop (q+1)).flatMap (fun v=>le 8 (u64 v))++L5).length<=900000 from by
     have:=TF.out;rw[qad,Je9 (fun v=>le 8 (u64 v)) 8 (fun a=>Ja2 8 _),qa2,O.out];omega)
    obtain⟨RR,Kx⟩:=exE ((fl.drop (q+1)).flatMap (fun v=>le 8 (u64 v))++L5);rw[<- Kx] at Tf Te;have Pc:=zI Kx;rw[Te.out] at hS;generalize fl[q]'Q=z at*;have Ky:=(qaa wr.heap.size wr).drew;have Kz:=zI (hS.below Ky);have Tg:=zI (Jaf hR Ky);have t5:=hS.box.at_ 5 (v:= .slice B q c2) rfl;have t5':=Kz.out.box.at_ 5 (v:= .slice B q c2) rfl;have Pd:=zI (Jk9 gu z RR wr.drew Kz.out.un (by have:=HZ.out;omega) Tf.out);have Pe:=zI (show q+1<=1000000 from by omega);have T:=zI (show gu<w8.heap.size/\gc<w8.heap.size from⟨h.out.un.bx.lt,h.out.box.lt⟩);clear hS hR Ky Kx;go_wp2_with fail
    go_region_law (first
     | (refine Jye (by rfl) _ _ (by rfl) Th.out (by rfl) (some ⟨w8'.heap.size,0,none⟩) 1 1 [(z:Int)] (by rfl) rfl Pf.out Pg.out Pe.out Ph.out ?_
        intro A7 c7 w9' KC Tj;have X9:=zI (show CgS w8 w9' gu gc gr RR (catG g i now nm A n c B q c2 none 0 0) from KD.out.row Th.out Tj (qab _) (by decide) (by decide));have d8:=X9.out.box.at_ 5 (v:= .slice B q c2) rfl;have f8:=X9.out.box.free 5)
     | (go_simp
        go_at_call 141
        refine Pd.out.mono ?_;rintro e w8' ⟨rfl,Tk,KE⟩;have G:=(qaa w8'.heap.size w8').alloc (qab _) (.cells #[(z:Int)] 3);have Tm:=zI (Kz.out.read Tk KE);have KD:=zI (Tm.out.below G);have Th:=zI (Jaf (Tg.out.kept KE (.inr fun e=>by have:=(Tg.out.lt _ e).1;have:=T.out;omega)) G);have Pf:=zI (Sl.new w8' 3 w8'.heap.size [(z:Int)] #[(z:Int)] rfl rfl);have Pg:=zI (show ∀u∈[Value.int .i64 z],u.oneCell'=true from by intro u hu;rw[qa1.1 hu];rfl);have Ph:=zI (show w8.heap.size<=(w8'.alloc (.cells #[(z:Int)] 3)).heap.size from KD.out.chg.size);have d6:=Tm.out.box.at_ 5 (v:= .slice B q c2) rfl;have d7:=KD.out.box.at_ 5 (v:= .slice B q c2) rfl;clear Tk KE G))
    all_goals
     have Tn:=zI (X9.out.set 5 (.slice A7 (q+1) c7))
     have Pi:=zI (show(w9'.setCell ⟨gc,5,none⟩ (.slice A7 (q+1) c7)).ownsRow w8.heap.size 3 1 (.slice A7 (q+1) c7) (q+1) ((fl.take (q+1)).map (Value.int .i64)) from by
      rw[Pb.out,qbg];exact KC.kept (Jam w9' gc 5 _) (.inr fun e=>(X9.out.box.not_row KC (by decide)) e.symm))
     rw[Pc.out] at Tn;clear KC Tj;go_wp2_with fail
     go_roundw
     case rel=>exact⟨q+1,A7,c7,by omega,by go_num,Tn.out,Pi.out⟩
     case measure=>simp[intOf];omega
  · have M:q=n:=by omega
    have Pj:=zI (show(fl.drop q).flatMap (fun v=>le 8 (u64 v))++L5=L5 from by rw[M,<- O.out,List.drop_length];rfl);have Pk:=zI (show fl.take q=fl from by rw[M,<- O.out,qca]);rw[Pj.out,M] at hS;rw[Pk.out,M] at hR;rw[M];clear M;obtain⟨wo,To⟩:=exE wr;rw[<- To] at hS hR ⊢;have HS:=zI hS;have HR:=zI hR;clear hS hR To;have Tp:=zI (show Cs 277 #[gu] wo fun e w'=>e= .returned (.string ⟨#[]⟩)/\UnAt w' gu L6/\wo.grownBy w' (some gu) from Jp9 gu [] L6 wo (by rw[<- H5.out];exact HS.out.un) (by simp) (by have:=TG.out;omega));have T:=zI (show gu<w8.heap.size/\gc<w8.heap.size from⟨h.out.un.bx.lt,h.out.box.lt⟩);go_wp2_with fail
    refine Tp.out.mono ?_;rintro e w10 ⟨rfl,Hz,D⟩;have R:=zI (HS.out.read Hz D);have C:=zI (HR.out.kept D (.inr fun e=>by have:=(HR.out.lt _ e).1;have:=T.out;omega));clear Hz D Tp;have x7:=R.out.box.at_ 7 (v:= ()) rfl;go_wp2_with fail
    clear x7;obtain⟨wq,Tq⟩:=exE w10;rw[<- Tq] at R C ⊢;clear Tq;go_loopw [75] (fun j wr=>j= .int .i64 0/\wq=wr) (fun _ _=>0)
    case atStart=>exact⟨rfl,rfl⟩
    case round=>
     obtain⟨rfl,hw⟩:=hrel;subst hw;have Tr:=zI (Jk9 gu 0 L7 wq (by rw[<- H6.out];exact R.out.un) (by omega) (by have:=TH.out;omega));go_wp2_with fail
     refine Tr.out.mono ?_;rintro e w11 ⟨rfl,H0,hJ⟩;have H9:=zI (R.out.read H0 hJ);have Ka:=zI (C.out.kept hJ (.inr fun e=>by have:=(C.out.lt _ e).1;have:=T.out;omega));have Ts:=zI (Jk9 gu 0 L8 w11 (by rw[<- H7.out];exact H9.out.un) (by omega) (by have:=KJ.out;omega));clear H0 hJ Tr;go_wp2_with fail
     refine Ts.out.mono ?_;rintro e w12 ⟨rfl,Kb,Ha⟩;have o:=H9.out.read Kb Ha;have Hb:=Ka.out.kept Ha (.inr fun e=>by have:=(Ka.out.lt _ e).1;have:=T.out;omega);have x9:=o.box.at_ 9 (v:= (0:Int)) rfl;have x10:=o.box.at_ 10 (v:= (0:Int)) rfl;have f9:=o.box.free 9;have f10:=o.box.free 10;have V:=zI (show CgS w8 ((w12.setCell ⟨gc,9,none⟩ (0:Int)).setCell ⟨gc,10,none⟩ (0:Int)) gu gc gr L8 (catG g i now nm A n c B n c2 none 0 0) from(o.set 9 (0:Int)).set 10 (0:Int));have S:=(o.box.not_row Hb (by decide));have Hc:=zI ((Hb.kept (Jam w12 gc 9 (0:Int)) (.inr fun e=>S e.symm)).kept (Jam (w12.setCell ⟨gc,9,none⟩ (0:Int)) gc 10 (0:Int)) (.inr fun e=>S e.symm));clear Kb Ha Ts o Hb S;go_wp2_with fail
     obtain⟨w13,Kc⟩:=exE ((w12.setCell ⟨gc,9,none⟩ (0:Int)).setCell ⟨gc,10,none⟩ (0:Int));rw[<- Kc] at V Hc ⊢;clear Kc x9 x10 f9 f10;have Pn:=zI (Js7 gu es [] w13 (by rw[<- H8.out];exact V.out.un) (fun e he=>(L.out.hok e he).fit L.out.hi) L.out.hen (by have:=KJ.out;rw[H8.out,qad] at this;omega));refine Pn.out.mono ?_;rintro e w14 ⟨v,ms,rfl,Hw,Hd,Kd⟩;have d:ms.length=en:=(by rw[Kh.out,<- Hw,qa4])
     obtain⟨E,ec,rfl,KG⟩:=Hd.ems (fun m hm=>by
      have he:m.e∈es:=by rw[<- Hw];exact qbn.2 ⟨m,hm,rfl⟩
      exact⟨(L.out.hok _ he).bl,(L.out.hok _ he).len.2⟩)
     rw[d] at KG;rw[d];have U:=V.out.readC Kd Hd.chg;have He:=Jax Hc.out Hd.chg (J09 Hc.out T.out.1);have x11:=U.box.at_ 11 (v:= ()) rfl;have f11:=U.box.free 11;have Hf:=(U.box.not_row He (by decide));have t:=zI (show CgS w8 (w14.setCell ⟨gc,11,none⟩ (.slice E en ec)) gu gc gr [] (Ja1 g i now nm A n c B c2 E en ec) from U.set 11 (.slice E en ec));have Hg:=zI (He.kept (Jam w14 gc 11 (.slice E en ec)) (.inr fun e=>Hf e.symm))
     have Hh:=zI (KG.chg (Chg.set (F:=fun b=>b=gc) w14 ⟨gc,11,none⟩ (.slice E en ec) rfl) (fun b hb e=>by
      have K:=hb.1;have J:=V.out.box.lt;omega))
     have k:=zI Hw;have Hi:=zI (show w8.heap.size<=w13.heap.size/\w13.heap.size<=w14.heap.size from⟨V.out.chg.size,Hd.chg.size⟩);clear Hw Hd Kd KG U He Hf d;go_wp2_with fail
     obtain⟨w15,Hj⟩:=exE (w14.setCell ⟨gc,11,none⟩ (.slice E en ec));have Hk:=zI (show w14.heap.size=w15.heap.size from by rw[Hj];simp);rw[<- Hj] at t Hg Hh ⊢;clear Hj x11 f11;refine(Jsl gu [] w15 t.out.un).mono ?_;rintro e w15' ⟨rfl,hw⟩;subst hw;have Hl:=zI (Chg.madeF Hv.out t.out.chg Hr.out)
     have Po:=zI (show Jgz w15 (made w w15) g i now nm A n c B c2 E en ec ts fl ms from by
      have f:=L.out;have Pp:=Hl.out.size;have Tt:=Hv.out.size;have hz:=Hi.out;have Tu:=Hk.out;refine⟨f.hg,f.hi,f.hnow,f.hnm,K8.out.chg t.out.chg Ta.out,K9.out,f.hck,?_,f.hflo,Hh.out.sub (fun b hb=>⟨by have:=hb.1;omega,by have:=hb.2;omega⟩),by have:=f.hen;rw[Kh.out];exact this,fun m hm=>f.hok _ (by rw[<- k.out];exact qbn.2 ⟨m,hm,rfl⟩),by rw[Js8,k.out];exact f.hsh,by rw[Jln,k.out];exact f.hbl,by rw[k.out];exact f.hlen⟩;obtain⟨_,_,e,hh⟩:=Jao Hg.out;cases e
      exact⟨hh,O.out,by unfold maxLen;omega,fun z hz=>Jcd (by have:=f.hflo z hz;omega)⟩)
     have Tw:=zI (J08 g i now nm A n c B c2 E en ec ts fl ms w15 Po.out (Kj.out.below Hl.out));rw[k.out,TI.out,<- TL.out] at Tw;obtain⟨x0,x1,x2,x3,x4,x5,x6,x7,x8,x9,x10,x11⟩:=Jbm t.out.box;go_wp2_with fail
     refine Tw.out.mono ?_;rintro e w16 ⟨rfl,s⟩;have Tx:=zI ((K8.out.chg t.out.chg Ta.out).below s);have Ty:=zI (Hh.out.below s);have Tz:=zI (Hl.out.trans (s.mono Hl.out.size));have TA:=zI (t.out.box.below s);have Ke:=zI (t.out.res.below s);have Hm:=zI (Jaf Hg.out s);have Kf:=zI s.size;clear s x0 x1 x2 x3 x4 x5 x6 x7 x8 x9 x10 x11;obtain⟨x0,x1,x2,x3,x4,x5,x6,x7,x8,x9,x10,x11⟩:=Jbm TA.out;have r:=Ke.out;have y0:=r.at_ 0 rfl;have y1:=r.at_ 1 rfl;have y2:=r.at_ 2 rfl;have y3:=r.at_ 3 rfl;have y4:=r.at_ 4 rfl;have y5:=r.at_ 5 rfl;have y6:=r.at_ 6 rfl;have y7:=r.at_ 7 rfl;have y8:=r.at_ 8 rfl;have y9:=r.at_ 9 rfl;have y10:=r.at_ 10 rfl;have y11:=r.at_ 11 rfl;have f0:=r.free 0;have f1:=r.free 1;have f2:=r.free 2;have f3:=r.free 3;have f4:=r.free 4;have f5:=r.free 5;have f6:=r.free 6;have f7:=r.free 7;have f8:=r.free 8;have f9:=r.free 9;have f10:=r.free 10;have f11:=r.free 11;clear r;go_wp2_with fail
     clear x0 x1 x2 x3 x4 x5 x6 x7 x8 x9 x10 x11 y0 y1 y2 y3 y4 y5 y6 y7 y8 y9 y10 y11 f0 f1 f2 f3 f4 f5 f6 f7 f8 f9 f10 f11;obtain⟨w17,Hn⟩:=exE (putC w16 gr 0 [.int .u64 (g:Int),.int .u64 (i:Int),(now:Int),nm,.slice A n c,.slice B n c2,ByteArray.empty,(),(),(0:Int),(0:Int),.slice E en ec]);have y:=Jaw Ke.out [.int .u64 (g:Int),.int .u64 (i:Int),(now:Int),nm,.slice A n c,.slice B n c2,ByteArray.empty,(),(),(0:Int),(0:Int),.slice E en ec] rfl;have Kg:=Jaj (B:=w.heap.size) [.int .u64 (g:Int),.int .u64 (i:Int),(now:Int),nm,.slice A n c,.slice B n c2,ByteArray.empty,(),(),(0:Int),(0:Int),.slice E en ec] (show w.heap.size<=gr from Nat.le_of_eq H.out.symm) w16 0;have l:=Jcb (g:=gr) [.int .u64 (g:Int),.int .u64 (i:Int),(now:Int),nm,.slice A n c,.slice B n c2,ByteArray.empty,(),(),(0:Int),(0:Int),.slice E en ec] w16 0;rw[<- Hn] at y Kg l;simp only[putC,qa7,Nat.reduceAdd] at Hn;rw[<- Hn];have q0:=y.at_ 0 rfl;have q1:=y.at_ 1 rfl;have q2:=y.at_ 2 rfl;have q3:=y.at_ 3 rfl;have q4:=y.at_ 4 rfl;have q5:=y.at_ 5 rfl;have q6:=y.at_ 6 rfl;have q7:=y.at_ 7 rfl;have q8:=y.at_ 8 rfl;have q9:=y.at_ 9 rfl;have q10:=y.at_ 10 rfl;have q11:=y.at_ 11 rfl;refine qa6 (v:= .tuple #[.agg (Ja1 g i now nm A n c B c2 E en ec),(0:Int)]) (by simp[results,Tryz.results213,go_sem,q0,q1,q2,q3,q4,q5,q6,q7,q8,q9,q10,q11]) rfl ⟨A,c,B,c2,E,ec,ms,rfl,k.out,?_,?_,?_,Tz.out.trans Kg⟩
     · have f:=L.out
       have Pp:=Hl.out.size;have Tt:=Hv.out.size;have hz:=Hi.out;have Tu:=Hk.out;have Ps:=Kf.out;have Pt:=l.size;have Pw:=H.out;have TT:=Hp.out;have Px:=T.out;refine⟨f.hg,f.hi,f.hnow,f.hnm,Tx.out.chg l T7.out,K9.out,f.hck,?_,f.hflo,(Ty.out.chg l (fun b hb e=>by have:=hb.1;omega)).sub (fun b hb=>⟨by have:=hb.1;omega,by have:=hb.2;omega⟩),by have:=f.hen;rw[Kh.out];exact this,fun m hm=>f.hok _ (by rw[<- k.out];exact qbn.2 ⟨m,hm,rfl⟩),by rw[Js8,k.out];exact f.hsh,by rw[Jln,k.out];exact f.hbl,by rw[k.out];exact f.hlen⟩;obtain⟨_,_,e,hh⟩:=Jao (Jax Hm.out l (fun b hb e=>by have:=(Hm.out.lt b hb).1;omega));cases e
       exact⟨hh,O.out,by unfold maxLen;omega,fun z hz=>Jcd (by have:=f.hflo z hz;omega)⟩
     · exact T8.out _ (by have K:=Hi.out;have J:=Hk.out;have h3:=Kf.out;have h4:=l.size;have h5:=T6.out;omega)
     · intro a e
       subst e;have h0:=Hm.out.lt a.block rfl;have h4:=l.size;have Tt:=Hv.out.size;exact⟨by omega,by omega⟩
