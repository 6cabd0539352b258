/- Laws that the walk of the last text wants. -/
import Derived.Test.YtglmhddbhhcjdaaGreatDoorC11
import Derived.Test.YtglmhddbhhcjdaaGreatDoorC9
import Derived.Test.YtglmhddbhhcjdaaGreatDoorC10
set_option maxRecDepth 100000
set_option linter.unusedSimpArgs false
set_option maxHeartbeats 4000000
namespace Go.Proofs.YtglmhddbhhcjdaaGreatDoor
open Go.RowKit Go.Maps
theorem J7e{g:Nat}{ev:Int}(r:Rc)(w:World)(c0:w.cell? ⟨g,0,none⟩=some (.int .i64 ev))(hs:r.nm.size<=maxLen)(ht: -9223372036854775808<=r.st/\r.st<=9223372036854775807)(he: -9223372036854775808<=ev/\ev<=9223372036854775807)(hv:Jae r.nm.toList=true)(h0:0<=r.st)(ho:onB r.st ev=true):Cs 204 #[g,r.val] w (RB w (Jau ev r)):=by
 have y:=qba w _ c0;simp only at y;have t:=zI hs;have z:Hid (_/\_):=zI ⟨ht,he⟩;clear hs;have q:=zI (show([r.nm].all fun s=>Jae s.toList)=true from by simp[hv]);cases hg:Jbx r.ag
 · have x:=zI ho
   have v:=zI hg;have u:=zI (show Jau ev r=false from by unfold Jau;simp[hg]);clear ho hv hg;go_enter Tryz.func204,Tryz.ntmps204;go_wp2;have cD:((w.alloc (.cells #[r.nm,(r.st:Int),(r.ag.c:Int),(r.ag.hi:Int),.int .u64 r.ag.lo,(r.ag.mn:Int),(r.ag.mx:Int)] 142)).drew).cell? ⟨g,0,none⟩=some (.int .i64 ev):=Jfr c0
   go_region_held3 (fun w'=>w'.cell? ⟨w.heap.size,0,none⟩=some (.string r.nm)/\w'.cell? ⟨w.heap.size,1,none⟩=some (.int .i64 r.st)/\w'.cell? ⟨w.heap.size,2,none⟩=some (.int .i64 r.ag.c)/\w'.cell? ⟨w.heap.size,3,none⟩=some (.int .i64 r.ag.hi)/\w'.cell? ⟨w.heap.size,4,none⟩=some (.int .u64 r.ag.lo)/\w'.cell? ⟨w.heap.size,5,none⟩=some (.int .i64 r.ag.mn)/\w'.cell? ⟨w.heap.size,6,none⟩=some (.int .i64 r.ag.mx)/\w'.cell? ⟨g,0,none⟩=some (.int .i64 ev))
    (first | (go_split_ands;refine⟨?_,?_,?_,?_,?_,?_,?_,?_⟩<;>first | assumption | (refine Jfr ?_;assumption) | (simp[go_sem];done)))
    (first
      | (go_at_call 168;refine(Jbj (some ⟨_,0,none⟩) 1 1 [r.nm] _ (by decide) rfl (by simpa using t.out) (fun _=>⟨_,0,rfl,one_cell (by simp[go_sem])⟩)).mono ?_;rw[q.out];rintro e w' ⟨rfl,rfl⟩)
      | (go_at_call 96;refine(Jl8 r.st ev _ z.out.1 z.out.2).mono ?_;rw[x.out];rintro e w' ⟨rfl,rfl⟩)
      | (go_at_call 271;refine(Jbi r.ag _).mono ?_;rw[v.out];rintro e w' ⟨rfl,rfl⟩))
   go_wp2;go_ret;exact⟨Jal u.out.symm,by repeat (first | exact qaa _ _ | refine Below.drew ?_ | refine qc8 ?_ (by simp;try omega) _)⟩
 · have x:=zI ho
   have v:=zI hg;have u:=zI (show Jau ev r=true from by unfold Jau;simp[hg,ho,hv,h0]);clear ho hv hg;go_enter Tryz.func204,Tryz.ntmps204;go_wp2;have cD:((w.alloc (.cells #[r.nm,(r.st:Int),(r.ag.c:Int),(r.ag.hi:Int),.int .u64 r.ag.lo,(r.ag.mn:Int),(r.ag.mx:Int)] 142)).drew).cell? ⟨g,0,none⟩=some (.int .i64 ev):=Jfr c0
   go_region_held3 (fun w'=>w'.cell? ⟨w.heap.size,0,none⟩=some (.string r.nm)/\w'.cell? ⟨w.heap.size,1,none⟩=some (.int .i64 r.st)/\w'.cell? ⟨w.heap.size,2,none⟩=some (.int .i64 r.ag.c)/\w'.cell? ⟨w.heap.size,3,none⟩=some (.int .i64 r.ag.hi)/\w'.cell? ⟨w.heap.size,4,none⟩=some (.int .u64 r.ag.lo)/\w'.cell? ⟨w.heap.size,5,none⟩=some (.int .i64 r.ag.mn)/\w'.cell? ⟨w.heap.size,6,none⟩=some (.int .i64 r.ag.mx)/\w'.cell? ⟨g,0,none⟩=some (.int .i64 ev))
    (first | (go_split_ands;refine⟨?_,?_,?_,?_,?_,?_,?_,?_⟩<;>first | assumption | (refine Jfr ?_;assumption) | (simp[go_sem];done)))
    (first
      | (go_at_call 168;refine(Jbj (some ⟨_,0,none⟩) 1 1 [r.nm] _ (by decide) rfl (by simpa using t.out) (fun _=>⟨_,0,rfl,one_cell (by simp[go_sem])⟩)).mono ?_;rw[q.out];rintro e w' ⟨rfl,rfl⟩)
      | (go_at_call 96;refine(Jl8 r.st ev _ z.out.1 z.out.2).mono ?_;rw[x.out];rintro e w' ⟨rfl,rfl⟩)
      | (go_at_call 271;refine(Jbi r.ag _).mono ?_;rw[v.out];rintro e w' ⟨rfl,rfl⟩))
   go_wp2;go_ret;exact⟨Jal u.out.symm,by repeat (first | exact qaa _ _ | refine Below.drew ?_ | refine qc8 ?_ (by simp;try omega) _)⟩
theorem Jpu{g:Nat}{ev:Int}(r:Rc)(w:World)(c0:w.cell? ⟨g,0,none⟩=some (.int .i64 ev))(hs:r.nm.size<=maxLen)(ht: -9223372036854775808<=r.st/\r.st<=9223372036854775807)(he: -9223372036854775808<=ev/\ev<=9223372036854775807):Cs 204 #[g,r.val] w (RB w (Jau ev r)):=by
 cases hv:Jae r.nm.toList
 · exact J7a r w c0 hs ht he hv
 · by_cases z:0<=r.st
   · cases ho:onB r.st ev
     · exact J7c r w c0 hs ht he hv z ho
     · exact J7e r w c0 hs ht he hv z ho
   · exact J7b r w c0 hs ht he hv z
theorem Jt4{ev:Int}{l:List Rc}{r:Rc}(h:Jau ev r=true):addR ev l r=putR ⟨r.nm,r.st,Jbf [agAt l r.nm r.st,r.ag]⟩ l:=by unfold addR;rw[qa0 h]
theorem J7f{ev:Int}{l:List Rc}{r:Rc}(h:Jau ev r=false):addR ev l r=l:=by unfold addR;rw[qay (by rw[h];simp)]
theorem Jcx{a b c:World}{row:Option Nat}(h:a.grownBy b row)(k:b.grownBy c none):a.grownBy c row:=h.andThen k (fun j hj=>by cases hj)
theorem J7g{w:World}{a b:Ag}(ha:a.Ok)(hb:b.Ok)(T:TypeId)(g:Nat)(hg:g=w.heap.size):Ags (w.alloc (.cells #[(a.c:Int),(a.hi:Int),.int .u64 a.lo,(a.mn:Int),(a.mx:Int),(b.c:Int),(b.hi:Int),.int .u64 b.lo,(b.mn:Int),(b.mx:Int)] T)) (some ⟨g,0,none⟩) 2 [a,b]:=
 ⟨Sl.new w T g _ _ hg (by simp[Ag.cells]),rfl,by decide,fun x z=>by
  rcases qbb.1 z with rfl | z
  · exact ha
  · rw[qa1.1 z];exact hb⟩
theorem Jt5{g mm:Nat}{ev:Int}{l rs:List Rc}{A:Option Addr}{n c:Nat}(w:World)(h:Jan w g mm ev l)(hr:Rcs w A n rs)(hev: -9223372036854775808<=ev/\ev<=9223372036854775807)(hfew:l.length+n<1000000):
  Cs 124 #[g,.slice A n c] w fun e w'=>e= .returned (addN ev rs:Int)/\Jan w' g mm ev (addL ev l rs)/\w.grownBy w' (some mm):=by
 have HL:=zI hr.len;have HE:=zI hev;clear hev;go_enter Tryz.func124,Tryz.ntmps124;go_wp2_with (go_at_call 203;refine(Jkk h).mono ?_;rintro e w1 ⟨rfl,rfl⟩)
 go_loopw [5,13] (fun v i wr=>∃j:Nat,j<=n/\i= .int .i64 j/\v= .int .i64 (addN ev (rs.take j))/\Jan wr g mm ev (addL ev l (rs.take j))/\w.grownBy wr (some mm)) (fun _ i _=>n - (intOf i).toNat)
 case atStart=>exact⟨0,qaq _,rfl,rfl,h,qcc _ _⟩
 case round =>
  obtain⟨j,hj,rfl,rfl,T,d⟩:=hrel;have Ha:=T.lt;have Hb:=T.map.lt;by_cases G:j<n
  · have K :j<rs.length:=by rw[HL.out];exact G
    obtain⟨b,off,rfl,hb,R⟩:=(hr.keep h.map d).get K;have s:=zI (hr.nm _ (qan K));have r:=zI (hr.st _ (qan K));have S:=zI (hr.ok _ (qan K));have HN:=zI (show addL ev l (rs.take (j+1))=addR ev (addL ev l (rs.take j)) rs[j] from by rw[qam K,Jpk]);have HM:=zI (show addN ev (rs.take (j+1))=addN ev (rs.take j)+(if Jau ev rs[j]=true then 1 else 0) from by rw[qam K,Jya])
    have P:=zI (show(addL ev l (rs.take j)).length<1000000 from by
     have:=Jjr (ev:=ev) (l:=l) (rs:=rs.take j);rw[qao] at this;omega)
    have hq:addN ev (rs.take j)<=1000000:=by
     have:addN ev (rs.take j)<=(rs.take j).length:=List.countP_le_length;rw[qao] at this;omega
    generalize rs[j]'K=x at*;generalize addL ev l (rs.take j)=k at*;generalize addN ev (rs.take j)=q at*;obtain⟨r0,r1,r2,r3,r4,r5,r6⟩:=R;have g1:wr.grownBy (wr.alloc (.cells #[x.nm,(x.st:Int),(x.ag.c:Int),(x.ag.hi:Int),.int .u64 x.ag.lo,(x.ag.mn:Int),(x.ag.mx:Int)] 142)) none:=qbl _ _ _;have X1:=Jbv.new wr x;have T1:=T.grown g1 (by simp) (by simp);have t:=Jcx d g1;cases hx:Jau ev x
    · have Z:=zI hx
      clear hx;go_wp2_with (go_at_call 204;refine(Jpu x _ T1.cells.1 s.out (Jto r.out) HE.out).mono ?_;rw[Z.out];rintro e w2 ⟨rfl,u⟩)
      go_roundw
      case rel=>exact⟨j+1,by omega,by go_num,by rw[HM.out,Z.out];simp,by rw[HN.out,J7f Z.out];exact T1.below u,Jcx t (Jab u none)⟩
      case measure=>simp[intOf];omega
    · have Z:=zI hx
      clear hx;have HF:=zI (T1.map.fit x.nm x.st);have F:=World.grownBy.size g1;have O:wr.heap.size<(wr.alloc (.cells #[x.nm,(x.st:Int),(x.ag.c:Int),(x.ag.hi:Int),.int .u64 x.ag.lo,(x.ag.mn:Int),(x.ag.mx:Int)] 142)).heap.size:=(by simp);clear F
      go_wp2_with (first
       | (go_at_call 204;refine(Jpu x _ T1.cells.1 s.out (Jto r.out) HE.out).mono ?_;rw[Z.out];rintro e w2 ⟨rfl,u⟩
          have X2:=X1.keep (Jab u none) (by simp);have x0:=X2.c0;have x1:=X2.c1;have T2:=T1.below u;have o:=Jcx t (Jab u none);have Hc:wr.heap.size<w2.heap.size:=qar O u.size;clear X1 T1 t u r0 r1 r2 r3 r4 r5 r6))
      clear x0 x1 O;have p:Below w2.heap.size w2 ((w2.alloc (.cells #[x.nm,(x.st:Int)] 289)).drew):=((qaa _ _).alloc (qab _) _).drew;have X3:=X2.keep (Jab p none) (by simp);have T3:=T2.below p;have N:=Jcx o (Jab p none);have p0:((w2.alloc (.cells #[x.nm,(x.st:Int)] 289)).drew).cell? ⟨w2.heap.size,0,none⟩=some (.string x.nm):=qb4 (w2.alloc (.cells #[x.nm,(x.st:Int)] 289)) _ 0 _ _ _ (qci w2 _);have p1:((w2.alloc (.cells #[x.nm,(x.st:Int)] 289)).drew).cell? ⟨w2.heap.size,1,none⟩=some (.int .i64 x.st):=qb4 (w2.alloc (.cells #[x.nm,(x.st:Int)] 289)) _ 1 _ _ _ (qci w2 _);have x2:=X3.c2;have x3:=X3.c3;have x4:=X3.c4;have x5:=X3.c5;have x6:=X3.c6;have t1:=T3.cells.2;have E:=T3.map.look s.out r.out;obtain⟨z,H⟩:∃z,agAt k x.nm x.st=z:=⟨_,rfl⟩;rw[H] at E;have HZ:=zI H;have Y:=HF.out;rw[H] at Y;have M:=zI Y;clear H Y HF;obtain⟨y,D⟩:∃y,Jbf [z,x.ag]=y:=⟨_,rfl⟩;have HY:=zI D
      have m:Rc.Ok ⟨x.nm,x.st,y⟩:=⟨s.out,r.out,by
       rw[<- D]
       exact Ag.Fit.merge (fun a C=>by
        rcases qbb.1 C with rfl | C
        · exact M.out.ok
        · rw[qa1.1 C];exact S.out)⟩
      have B:=zI m;clear D;have Hd:g≠mm:=T.ne;have He:=T2.map.lt;have W:Below w2.heap.size w2 (((w2.alloc (.cells #[x.nm,(x.st:Int)] 289)).alloc (.cells #[(z.c:Int),(z.hi:Int),.int .u64 z.lo,(z.mn:Int),(z.mx:Int),(x.ag.c:Int),(x.ag.hi:Int),.int .u64 x.ag.lo,(x.ag.mn:Int),(x.ag.mx:Int)] 140)).drew):=(((qaa _ _).alloc (qab _) _).alloc (by simp) _).drew;have T4:=T2.below W;have L:=Jcx o (Jab W none);have J:=Jxx (some ⟨w2.heap.size+1,0,none⟩) 2 2 [z,x.ag] _ ((J7g (w:=w2.alloc (.cells #[x.nm,(x.st:Int)] 289)) M.out.ok S.out 140 (w2.heap.size+1) (by simp)).below ((qaa _ _).drew));rw[HY.out] at J;clear m X2 T p W N
      go_region_held3 (fun w'=>w'.cell? ⟨g,1,none⟩=some (.map (some mm))/\w'.cell? ⟨w2.heap.size,0,none⟩=some (.string x.nm)/\w'.cell? ⟨w2.heap.size,1,none⟩=some (.int .i64 x.st)/\w'.cell? ⟨wr.heap.size,0+2,none⟩=some (.int .i64 x.ag.c)/\w'.cell? ⟨wr.heap.size,0+3,none⟩=some (.int .i64 x.ag.hi)/\w'.cell? ⟨wr.heap.size,0+4,none⟩=some (.int .u64 x.ag.lo)/\w'.cell? ⟨wr.heap.size,0+5,none⟩=some (.int .i64 x.ag.mn)/\w'.cell? ⟨wr.heap.size,0+6,none⟩=some (.int .i64 x.ag.mx))
       (first | (go_split_ands;refine⟨?_,?_,?_,?_,?_,?_,?_,?_⟩<;>first | assumption | (refine World.grownBy.cell V ?_ (by simp;omega);assumption) | (refine World.grownBy.cell U ?_ (by simp);assumption) | (refine Jfr ?_;assumption)))
       (first
         | (go_at_call 205;refine J.mono ?_;rintro e w5 ⟨rfl,hJ⟩
            have U:=Jab hJ none;have T5:=T4.grown U (by simp) (by simp);have I:=Jcx L U;obtain⟨w6,f,M6,V⟩:=T5.map.store B.out P.out;have Hf:(Instr.mapUpdate 255 (.map (some mm)) (Jcp x.nm x.st) y.val).run Tryz.prog w5= .ok () w6:=f;clear f))
      go_wp2;go_roundw
      case rel=>exact⟨j+1,by omega,by go_num,by rw[HM.out,Z.out];simp,by rw[HN.out,Jt4 Z.out,HZ.out,HY.out];exact T5.turned V M6,I.andThen V (fun j hj=>by cases hj;exact Or.inr rfl)⟩
      case measure=>simp[intOf];omega
  · have e1:=zI (show rs.take j=rs from qap (by rw[HL.out];omega))
    rw[e1.out] at T ⊢;go_wp2;go_ret;exact⟨rfl,T,d⟩
end Go.Proofs.YtglmhddbhhcjdaaGreatDoor
namespace Go.Proofs.YtglmhddbhhcjdaaGreatDoor
open Go.RowKit
theorem Jt6{w:World}{B:Nat}{e:TypeId}{k n c:Nat}{A:Option Addr}{xs:List Value}(h:w.ownsRow B e k (.slice A n c) n xs):n<=c:=by
 rcases h.2 with⟨e1,e2⟩ | ⟨g,cap,cur,e1,_,_,z,_⟩
 · cases e1;omega
 · cases e1;exact z
theorem Jyj{w w0:World}{e:TypeId}{k n c:Nat}{A:Option Addr}{xs:List Value}(h:w.ownsRow w0.heap.size e k (.slice A n c) n xs):∀a,A=some a ->w0.heap.size<=a.block/\a.block<w.heap.size:=by
 intro a e1;subst e1;exact h.lt _ rfl
theorem Jt7{w:World}{L:Option Addr}{k:Nat}{ga:Nat ->Nat}(h:Sl w L ((List.range k).map fun i=>ptrV (ga i))){i:Nat}(hi:i<k):∃b off,L=some ⟨b,off,none⟩/\b<w.heap.size/\w.cell? ⟨b,off+i,none⟩=some (.pointer (some ⟨ga i,0,none⟩)):=by
 obtain⟨b,off,e,z,y⟩:=h.get (j:=i) (by simpa using hi);exact⟨b,off,e,z,by simpa[ptrV] using y⟩
def evF (ts:List Ti) (i:Nat):Int:=((ts[i]?).map Ti.ev).getD 0
theorem J9l{ts:List Ti}{i:Nat}(h:i<ts.length):evF ts i=(ts[i]).ev:=by unfold evF;rw[qah h];rfl
def upd (g:Nat ->Nat) (k v:Nat):Nat ->Nat:=fun i=>if i=k then v else g i
theorem upd_same(g:Nat ->Nat)(k v:Nat):upd g k v k=v:=by simp[upd]
theorem Jh2{g:Nat ->Nat}{k v i:Nat}(h:i<k):upd g k v i=g i:=by unfold upd;rw[qay (by omega)]
theorem Jyk(ga:Nat ->Nat)(k v:Nat):((List.range k).map fun i=>ptrV (ga i))++[ptrV v]=(List.range (k+1)).map fun i=>ptrV (upd ga k v i):=by
 rw[qbw,qbg]
 congr 1
 · exact qcv (fun i hi=>by rw[Jh2 (qce.1 hi)])
 · simp[upd_same]
structure Jkz (w0 w:World) (v:Value) (k:Nat) (ga gm:Nat ->Nat) (ev:Nat ->Int) (tab:Nat ->List Rc):Prop where
 row:w.ownsRow w0.heap.size 165 1 v k ((List.range k).map fun i=>ptrV (ga i))
 tab:∀i,i<k ->Jan w (ga i) (gm i) (ev i) (tab i)
 apart:∀i j,i<k ->j<k ->gm i=gm j ->i=j
 low:∀i,i<k ->w0.heap.size<=ga i/\w0.heap.size<=gm i
section
variable {w0 w w':World} {v:Value} {k:Nat} {ga gm:Nat ->Nat} {ev:Nat ->Int} {tab:Nat ->List Rc}
theorem Jkz.below(h:Jkz w0 w v k ga gm ev tab)(hb:Below w.heap.size w w'):Jkz w0 w' v k ga gm ev tab:=
 ⟨Jaf h.row hb,fun i hi=>(h.tab i hi).below hb,h.apart,h.low⟩
theorem Jkz.grown(h:Jkz w0 w v k ga gm ev tab){b:Nat}(hg:w.grownBy w' (some b)){T:TypeId}{cs:Array Value}(hb:Bx w b T cs)(hT1:T≠257)(hT2:T≠165):Jkz w0 w' v k ga gm ev tab:=
 ⟨h.row.kept hg (.inr fun e=>hb.not_row h.row hT2 e.symm),fun i hi=>(h.tab i hi).grown hg
   (fun e=>by cases e;have:=(h.tab i hi).blk;rw[hb.blk] at this;injection this with this;injection this with _ this;exact hT1 this)
   (fun e=>by cases e;have:=(h.tab i hi).map.nocell 0;obtain⟨D,⟨es,c,z,_⟩,_⟩:=(h.tab i hi).map.own;rw[hb.blk] at z;cases z),h.apart,h.low⟩
theorem Jkz.snoc(h:Jkz w0 w v k ga gm ev tab){w1 w2:World}{g m:Nat}{l:List Rc}{v':Value}(ht:Jan w1 g m (ev k) l)(hb:Below w.heap.size w w1)(hg1:w.heap.size<=g)(hm1:w.heap.size<=m)(h0:w0.heap.size<=w.heap.size)(hr:w2.ownsRow w0.heap.size 165 1 v' (k+1) (((List.range k).map fun i=>ptrV (ga i))++[ptrV g]))(hg:w1.grownBy w2 v.ownBlock)(htab:tab k=l):Jkz w0 w2 v' (k+1) (upd ga k g) (upd gm k m) ev tab:=by
 have u:=h.below hb
 have far:∀ {a b:Nat} {e:Int} {x:List Rc},Jan w1 a b e x ->Jan w2 a b e x:=by
  intro a b e x t;refine t.grown hg (fun e2=> ?_) (fun e2=> ?_)
  · obtain⟨cur,s⟩:=Jc0 u.row e2.symm
    have:=t.blk;rw[s] at this;injection this with this;injection this with _ this;exact absurd this (by decide)
  · obtain⟨cur,s⟩:=Jc0 u.row e2.symm
    obtain⟨D,⟨es,c,r,_⟩,_⟩:=t.map.own;rw[s] at r;cases r
 refine⟨by rw[Jyk] at hr;exact hr,fun i hi=> ?_,fun i j hi hj e=> ?_,fun i hi=> ?_⟩
 · by_cases e:i=k
   · subst e
     rw[upd_same,upd_same,htab];exact far ht
   · have z:i<k:=by omega
     rw[Jh2 z,Jh2 z];exact far (u.tab i z)
 · by_cases e1:i=k
   · by_cases e2:j=k
     · omega
     · have y:j<k:=by omega
       rw[e1,upd_same,Jh2 y] at e;have:=(h.tab j y).map.lt;omega
   · have z:i<k:=by omega
     by_cases e2:j=k
     · rw[e2,upd_same,Jh2 z] at e
       have:=(h.tab i z).map.lt;omega
     · have y:j<k:=by omega
       rw[Jh2 z,Jh2 y] at e;exact h.apart i j z y e
 · by_cases e:i=k
   · subst e
     rw[upd_same,upd_same];omega
   · have z:i<k:=by omega
     rw[Jh2 z,Jh2 z];exact h.low i z
end
structure TNew (w0 w:World) (now:Int) (nm:ByteArray) (vA vB:Value) (ts:List Ti) (tab:Nat ->List Rc) (k:Nat):Prop where
 ex:∃v ga gm,Bx w w0.heap.size 164 #[(now:Int),nm,vA,vB,v]/\Jkz w0 w v k ga gm (evF ts) tab
 bel:Below w0.heap.size w0 w
theorem TNew.next{w0 w5 w6 w7:World}{now:Int}{nm:ByteArray}{vA vB v:Value}{ts:List Ti}{tab:Nat ->List Rc}{q g6 m6 c7:Nat}{A7:Option Addr}{ga gm:Nat ->Nat}(hX:Bx w5 w0.heap.size 164 #[(now:Int),nm,vA,vB,v])(hT:Jkz w0 w5 v q ga gm (evF ts) tab)(hb:Below w0.heap.size w0 w5)(ht:Jan w6 g6 m6 (evF ts q) (tab q))(hbw:Below w5.heap.size w5 w6)(hg6:w5.heap.size<=g6)(hm6:w5.heap.size<=m6)(ho7:w7.ownsRow w0.heap.size 165 1 (.slice A7 (q+1) c7) (q+1) (((List.range q).map fun i=>ptrV (ga i))++[ptrV g6]))(hg7:w6.grownBy w7 v.ownBlock):
  TNew w0 (w7.setCell ⟨w0.heap.size,4,none⟩ (.slice A7 (q+1) c7)) now nm vA vB ts tab (q+1):=by
 have x:=hT.below hbw;have w:=(hX.below hbw).grown hg7 ((hX.below hbw).not_row x.row (by decide));have y:=hb.trans (hbw.mono hb.size);have z:=Jam w7 w0.heap.size 4 (.slice A7 (q+1) c7);have u:=hT.snoc (v':= .slice A7 (q+1) c7) (g:=g6) (m:=m6) (l:=tab q) ht hbw hg6 hm6 hb.size ho7 hg7 rfl;exact⟨⟨_,_,_,w.set 4 _,u.grown z w (by decide) (by decide)⟩,(Jbd x.row hg7 y y.size).trans ⟨z.os,z.tape,z.output,z.size,fun b hlt=>z.block b (qar hlt (qax y.size hg7.size)) (fun e=>by cases e;omega)⟩⟩
theorem TNew.done{w w0 wr:World}{r:Rch}{A B:Option Addr}{c m d n:Nat}{tab:Nat ->List Rc}(h:TNew w0 wr r.now r.nm (.slice A n c) (.slice B m d) r.ts tab n)(hR:Jem w0 A n B m r)(hA:AIn (made w w0) A)(hB:AIn (made w w0) B)(hc:n<=c)(hm:m<=1000000)(hs:w.heap.size<=w0.heap.size)(hn:n<=1000)(hnm:r.nm.size<=maxLen):Jag wr (made w wr) w0.heap.size ⟨r,(List.range n).map tab⟩:=by
 obtain⟨⟨v,ga,gm,q,z⟩,x⟩:=h;obtain⟨Lv,cv,rfl,t⟩:=Jao z.row;have u:=x.size;have s:=z.low;refine⟨⟨A,c,B,m,d,Lv,cv,ga,gm,by simpa using q,by simpa using hR.below x,by simpa using hc,hm,fun a e=>Jr8 (hA a e) u,fun a e=>Jr8 (hB a e) u,?_⟩,⟨hs,q.lt⟩,Ins.made,by simpa using hn,hnm⟩;refine⟨by simpa using t,fun i hi=> ?_,fun i j hi hj=>z.apart i j (by simpa using hi) (by simpa using hj),fun i hi=> ?_,fun a e=> ?_⟩
 · have y:i<n:=by simpa using hi
   have:=z.tab i y;have e2:Tv.tab ⟨r,(List.range n).map tab⟩ i=tab i:=by simp[Tv.tab,y]
   rw[e2];exact this
 · have y:i<n:=by simpa using hi
   have p:=s i y;exact⟨⟨by omega,(z.tab i y).lt⟩,⟨by omega,(z.tab i y).map.lt⟩⟩
 · have:=Jyj z.row a e
   exact⟨by have:=this.1;omega,this.2⟩
structure Jn1 (ts:List Ti) (fs:List Int):Prop where
 len:fs.length<=ts.length
 ok:∀i (h:i<fs.length) (h':i<ts.length),0<=fs[i]/\onB fs[i] ts[i].ev=true
theorem Jyl(nm:ByteArray)(A:Option Addr)(n c:Nat)(ts:List Ti)(now:Int)(B:Option Addr)(m d:Nat)(fs:List Int)(w:World)(hck:∀W,Tis W A n ts ->Cs 95 #[polV nm A n c] W (RB W (.tuple #[(0:Int),(0:Int)])))(hA:Tis w A n ts)(hc:n<=c)(hB:Ints w .i64 B m fs)(hnow:0<=now/\now<=1099511627776)(hf:Jn1 ts fs)(hev:∀t∈ts,1<=t.ev)(hn:n<=1000)(hnm:nm.size<=maxLen):
  Cs 40 #[polV nm A n c,(now:Int),.slice B m d] w fun e w'=>∃g,e= .returned (.tuple #[(g:Nat),(0:Int)])/\Jag w' (made w w') g ⟨⟨now,nm,ts,fs⟩,List.replicate n []⟩/\Below w.heap.size w w':=by
 obtain⟨w1,R⟩:=exE (w.alloc (.cells #[nm,.slice A n c] 101));have x:=(qaa w.heap.size w).alloc (qab _) (.cells #[nm,.slice A n c] 101);have p:=Bx.new w 101 #[nm,.slice A n c];rw[<- R] at x p;have Hl:=zI R;have I:=zI x;have Hm:=zI p;have Hn:=zI (hA.below x);have Ho:=zI (hB.below x);have Hp:=zI (hck w1 (hA.below x));have H:=zI hA.len;have Hq:=zI hB.len;have Kw:m<=n:=by have:=hf.len;rw[hA.len,hB.len] at this;exact this
 have Hr:=zI hf;have Hs:=zI hev;have Ht:=zI hnm;have Kx:=hnow.1;have Ky:=hnow.2;have d1:decide (now<0)=false:=qae (by omega);have d2:decide (1099511627776<now)=false:=qae (by omega);have d3:decide ((n:Int)<(m:Int))=false:=qae (by omega);have d4:decide (n<m)=false:=qae (by omega);have s0:=p.at_ 0 rfl;have s1:=p.at_ 1 rfl;clear R x p hA hB hck hf hev hnm hnow;go_enter Tryz.func40,Tryz.ntmps40;go_upto_region 1 with fail
 rw[<- Hl.out];go_wp2_with fail
 refine Hp.out.mono ?_;rintro e w2 ⟨rfl,o⟩;have Y:=zI (Hm.out.below o);have V:=zI (Hn.out.below o);have P:=zI (Ho.out.below o);have G:=zI (I.out.trans (o.mono I.out.size));clear s0 s1 o;have s0:=Y.out.at_ 0 rfl;have s1:=Y.out.at_ 1 rfl;go_wp2_with fail
 go_loopw [39] (fun i wr=>∃k:Nat,k<=m/\i= .int .i64 (k:Int)/\Below w2.heap.size w2 wr) (fun i _=>m - (intOf i).toNat)
 case atStart=>exact⟨0,qaq _,rfl,qaa _ _⟩
 case round=>
  obtain⟨k,hk,rfl,l⟩:=hrel;by_cases Hu:k<m
  · have HA:=zI (V.out.below l)
    have KB:k<fs.length:=by rw[Hq.out];exact Hu
    have KA:k<ts.length:=by rw[H.out];omega
    obtain⟨b,off,rfl,_,Hv⟩:=(P.out.below l).get KB;obtain⟨ba,oa,rfl,_,T0,T1,T2,T3⟩:=HA.out.get KA;obtain⟨Hw,F⟩:=Hr.out.ok k KB KA;have E:=P.out.wf _ (qan KB);have D:=V.out.ok _ (qan KA);have U:=zI (fun W=>Jl8 fs[k] ts[k].ev W (Jit E) D.ev);rw[F] at U;have s1:=(Y.out.below l).at_ 1 rfl;have df:decide (fs[k]<0)=false:=qae (by omega);have Kz:(k:Int)<(n:Int):=(by omega);generalize fs[k]'KB=f at*;generalize (ts[k]'KA)=tt at*;have HB:=zI l;clear l E D Hw F;go_wp2_with fail
    refine(U.out _).mono ?_;rintro e w3 ⟨rfl,hw⟩;subst hw;go_wp2_with fail
    go_roundw
    case rel=>exact⟨k+1,by omega,by go_num,HB.out⟩
    case measure=>simp[intOf];omega
  · have Hx:=zI (V.out.below l)
    have O:=zI (Y.out.below l);have j:=zI (G.out.trans (l.mono G.out.size));have Hy:=zI (Jkt now nm A n c ts B m d fs wr (V.out.below l) (P.out.below l) (by omega) (by omega) (by omega));have s0:=O.out.at_ 0 rfl;have s1:=O.out.at_ 1 rfl;clear l;go_wp2_with fail
    refine Hy.out.mono ?_;rintro e w4 ⟨A',c',B',d',rfl,hR,N,C,h⟩;have Hz:=zI hR;have H0:=zI (Jck N);have H9:=zI (Jck C);have Ka:=zI (Jt6 N);have Kb:=zI (Hx.out.below h);have hJ:=zI (O.out.below h);have Ha:=zI (j.out.trans (h.mono j.out.size));have Kc:=zI h.size;have Kd:=zI (Bx.new w4 164 #[(now:Int),nm,.slice A' n c',.slice B' m d',()]);have Ke:=zI ((qaa w4.heap.size w4).alloc (qab _) (.cells #[(now:Int),nm,.slice A' n c',.slice B' m d',()] 164));have Ku:=hJ.out.lt;have s1':=hJ.out.at_ 1 rfl;clear s0 s1 hR N C h;go_wp2_with fail
    go_loopw [67] (fun i wr=>∃k:Nat,k<=n/\i= .int .i64 (k:Int)/\TNew w4 wr now nm (.slice A' n c') (.slice B' m d') ts (fun _=>[]) k) (fun i _=>n - (intOf i).toNat)
    case atStart=>exact⟨0,qaq _,rfl,⟨(),fun _=>0,fun _=>0,Kd.out,⟨qaz _ _ _ _,by omega,by omega,by omega⟩⟩,Ke.out⟩
    case round=>
     obtain⟨q,hq,rfl,hT⟩:=hrel;obtain⟨⟨v,ga,gm,hX,s⟩,z⟩:=hT;by_cases Kv:q<n
     · have KA:q<ts.length:=by rw[H.out];omega
       have Kf:=zI (Kb.out.below z);obtain⟨ba,oa,rfl,_,T0,T1,T2,T3⟩:=Kf.out.get KA;have Kg:=zI (show evF ts q=ts[q].ev from J9l KA);have Kh:=zI (Hs.out _ (qan KA));obtain⟨Lv,cv,rfl,_⟩:=Jao s.row;generalize (ts[q]'KA)=tt at*;have y:=(qaa wr.heap.size wr).alloc (qab _) (.cells #[tt.nm,(tt.ev:Int),(tt.kp:Int),(tt.sh:Int)] 167);obtain⟨w5,M⟩:=exE (wr.alloc (.cells #[tt.nm,(tt.ev:Int),(tt.kp:Int),(tt.sh:Int)] 167));have Hb:=Bx.new wr 167 #[tt.nm,(tt.ev:Int),(tt.kp:Int),(tt.sh:Int)];rw[<- M] at y Hb;have Ki:=zI M;have L:=zI (hX.below y);have Hc:=zI (s.below y);have K:=zI (z.trans (y.mono z.size));clear M hX s z y;go_upto_region 16 with fail
       rw[<- Ki.out];have t1:=Hb.at_ 1 rfl;have p4:=L.out.at_ 4 rfl;have T:=(qaa w5.heap.size w5).drew;have Hd:=zI (L.out.below T);have Kj:=zI (Hc.out.below T);have He:=zI (K.out.trans (T.mono K.out.size));have HQ:=zI (show q+1<=1000000 from by omega);have Kk:=zI (show max tt.ev 1=tt.ev from by have:=Kh.out;omega);clear T
       go_region_law (first
        | (refine Jyf (by rfl) _ _ (by rfl) Hf.out.row (by rfl) (some ⟨w6.heap.size,0,none⟩) 1 1 [g6] (by rfl) rfl Kl.out U.out HQ.out Km.out.size ?_
           intro A7 c7 w7 Kn Hg;have X8:=zI (J.out.grown Hg (J.out.not_row Hf.out.row (by decide)));have d8:=X8.out.at_ 4 rfl;have f8:=X8.out.free 4)
        | (go_simp
           go_at_call 98
           refine(J26 tt.ev _).mono ?_;rintro e w6 ⟨g6,m6,rfl,Hh,S,Hi,Hj⟩;have Z:=S.alloc S.size (.cells #[g6] 165);have Ko:=zI (Hd.out.below S);have J:=zI (Hd.out.below Z);have Hf:=zI (Kj.out.below Z);have Km:=zI (He.out.trans (Z.mono He.out.size));have Kp:=zI (Hh.below ((qaa w6.heap.size w6).alloc (qab _) (.cells #[g6] 165)));have Kq:=zI Z;have Kl:=zI (Sl.new w6 165 w6.heap.size [g6] #[g6] rfl rfl);have U:=zI (show ∀u∈[Value.pointer (some ⟨g6,0,none⟩)],u.oneCell'=true from by intro u hu;rw[qa1.1 hu];rfl);have Hk:=zI (And.intro Hi Hj);have d6:=Ko.out.at_ 4 rfl;have d7:=J.out.at_ 4 rfl;clear Hh S Z Hi Hj))
       all_goals
        have Kr:TNew w4 (w7.setCell ⟨w4.heap.size,4,none⟩ (.slice A7 (q+1) c7)) now nm (.slice A' n c') (.slice B' m d') ts (fun _=>[]) (q+1):=
         TNew.next L.out Hc.out K.out (by rw[Kg.out,<- Kk.out];exact Kp.out) (((qaa _ _).drew).trans (Kq.out.mono (by simp))) Hk.out.1 Hk.out.2 Kn Hg
        go_wp2_with fail
        go_roundw
        case rel=>exact⟨q+1,by omega,by go_num,Kr⟩
        case measure=>simp[intOf];omega
     · have Ks:q=n:=by omega
       subst Ks;obtain⟨Lv,cv,rfl,_⟩:=Jao s.row
       have HE:=zI (show Jag wr (made w wr) w4.heap.size ⟨⟨now,nm,ts,fs⟩,List.replicate q []⟩ from by
        have:=TNew.done (w:=w) (r:=⟨now,nm,ts,fs⟩) (tab:=fun _=>[]) ⟨⟨_,ga,gm,hX,s⟩,z⟩ Hz.out (fun a e=>Jc5 (H0.out a e) j.out.size) (fun a e=>Jc5 (H9.out a e) j.out.size) Ka.out (by omega) (qax j.out.size Kc.out) hn Ht.out
        rwa [show(List.range q).map (fun _=>([]:List Rc))=List.replicate q [] from by apply qc7<;>simp] at this)
       have Kt:=zI (Ha.out.trans (z.mono Ha.out.size));clear hX s z;go_wp2_with fail
       go_ret2;exact⟨_,rfl,HE.out,Kt.out⟩
