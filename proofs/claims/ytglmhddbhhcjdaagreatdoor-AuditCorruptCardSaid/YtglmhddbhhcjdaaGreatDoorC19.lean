/- Laws that the walk of the last text wants. -/
import Derived.Test.YtglmhddbhhcjdaaGreatDoorC7
import Derived.Test.YtglmhddbhhcjdaaGreatDoorC8
set_option maxRecDepth 100000
set_option linter.unusedSimpArgs false
set_option maxHeartbeats 4000000
namespace Go.Proofs.YtglmhddbhhcjdaaGreatDoor.Py
open Go.RowKit
def J71:Value ->Nat
 | .slice _ n _=>n
 | _=>0
def Ja3 (a:Nat) (ws:List Wd):List Wd:=match ws[a]? with
 | some x=>(ws.drop a).takeWhile (fun y=>decide (y.line=x.line))
 | none=>[]
structure Box3 (w:World) (b:Nat) (t:ByteArray) (l c:Int):Prop where
 lt:b<w.heap.size
 c0:w.cell? ⟨b,0,none⟩=some (.string t)
 c1:w.cell? ⟨b,1,none⟩=some (.int .i64 l)
 c2:w.cell? ⟨b,2,none⟩=some (.int .i64 c)
 f0:w.frozen? ⟨b,0,none⟩=false
 f1:w.frozen? ⟨b,1,none⟩=false
 f2:w.frozen? ⟨b,2,none⟩=false
theorem Box3.new(w:World)(T:TypeId)(t:ByteArray)(l c:Int):Box3 (w.alloc (.cells #[t,(l:Int),(c:Int)] T)) w.heap.size t l c:=
 ⟨by simp,qcm _ _ _ _ rfl,qcm _ _ _ _ rfl,qcm _ _ _ _ rfl,qcp _ _ _ _ rfl,qcp _ _ _ _ rfl,qcp _ _ _ _ rfl⟩
theorem Box3.below{w w':World}{b:Nat}{t:ByteArray}{l c:Int}(h:Box3 w b t l c)(hb:Below w.heap.size w w'):Box3 w' b t l c:=
 ⟨qar h.lt hb.size,(hb.cell (p:=⟨b,0,none⟩) h.lt).trans h.c0,(hb.cell (p:=⟨b,1,none⟩) h.lt).trans h.c1,(hb.cell (p:=⟨b,2,none⟩) h.lt).trans h.c2,
  (hb.frozen (p:=⟨b,0,none⟩) h.lt).trans h.f0,(hb.frozen (p:=⟨b,1,none⟩) h.lt).trans h.f1,(hb.frozen (p:=⟨b,2,none⟩) h.lt).trans h.f2⟩
theorem Box3.grown{w w':World}{row:Option Nat}{b:Nat}{t:ByteArray}{l c:Int}(h:Box3 w b t l c)(hg:w.grownBy w' row)(hne:some b≠row):Box3 w' b t l c:=by
 have z:=hg.block b h.lt hne
 exact⟨qar h.lt hg.size,(qbk (a:=⟨b,0,none⟩) z).trans h.c0,(qbk (a:=⟨b,1,none⟩) z).trans h.c1,(qbk (a:=⟨b,2,none⟩) z).trans h.c2,
  (qco (a:=⟨b,0,none⟩) z).trans h.f0,(qco (a:=⟨b,1,none⟩) z).trans h.f1,(qco (a:=⟨b,2,none⟩) z).trans h.f2⟩
theorem Box3.set{w:World}{b:Nat}{t t':ByteArray}{l c l' c':Int}(h:Box3 w b t l c):Box3 (((w.setCell ⟨b,0,none⟩ t').setCell ⟨b,1,none⟩ (l':Int)).setCell ⟨b,2,none⟩ (c':Int)) b t' l' c':=by
 have n01:(⟨b,1,none⟩:Addr)≠⟨b,0,none⟩:=by simp
 have n02:(⟨b,2,none⟩:Addr)≠⟨b,0,none⟩:=by simp
 have n12:(⟨b,2,none⟩:Addr)≠⟨b,1,none⟩:=by simp
 refine⟨by simpa using h.lt,?_,?_,?_,?_,?_,?_⟩
 · rw[qbh _ _ _ _ n02,qbh _ _ _ _ n01,qc6 _ _ _ h.c0]
 · rw[qbh _ _ _ _ n12,qc6 _ _ _ (u:= (l:Int))]
   rw[qbh _ _ _ _ n01.symm];exact h.c1
 · rw[qc6 _ _ _ (u:= (c:Int))]
   rw[qbh _ _ _ _ n12.symm,qbh _ _ _ _ n02.symm];exact h.c2
 · rw[qbu,qbu,qbu];exact h.f0
 · rw[qbu,qbu,qbu];exact h.f1
 · rw[qbu,qbu,qbu];exact h.f2
structure Jcc (w:World) (g a:Nat) (ws:List Wd) (wr:World):Prop where
 at_:Jbb wr g a ws
 gr:w.grownBy wr (some g)
 k1:wr.cell? ⟨g,1,none⟩=w.cell? ⟨g,1,none⟩
 k2:wr.frozen? ⟨g,1,none⟩=w.frozen? ⟨g,1,none⟩
theorem Jcc.grown{w w2 w3:World}{row:Option Nat}{g a a0:Nat}{ws:List Wd}(h:Jcc w g a ws w2)(h0:Jbb w g a0 ws)(hg:w2.grownBy w3 row)(hr:∀k,row=some k ->w.heap.size<=k):Jcc w g a ws w3:=by
 have x:some g≠row:=fun e=>by have:=hr g e.symm;have:=h0.lt;omega
 have y:=hg.block g h.at_.lt x
 have z:w.grownBy w3 (some g):=⟨hg.os.trans h.gr.os,hg.tape.trans h.gr.tape,hg.output.trans h.gr.output,qax h.gr.size hg.size,fun k hk hkn=>
  (hg.block k (qar hk h.gr.size) (fun e=>by have:=hr k e.symm;omega)).trans (h.gr.block k hk hkn)⟩
 have e1:w3.cell? ⟨g,1,none⟩=w.cell? ⟨g,1,none⟩:=(qbk (a:=⟨g,1,none⟩) y).trans h.k1;have e2:w3.frozen? ⟨g,1,none⟩=w.frozen? ⟨g,1,none⟩:=(qco (a:=⟨g,1,none⟩) y).trans h.k2;exact⟨h0.grow z ((qbk (a:=⟨g,0,none⟩) y).trans h.at_.c0) ((qco (a:=⟨g,0,none⟩) y).trans h.at_.f0) e1 e2 h.at_.le,z,e1,e2⟩
theorem Jcc.below{w w2 w3:World}{g a a0:Nat}{ws:List Wd}(h:Jcc w g a ws w2)(h0:Jbb w g a0 ws)(hb:Below w2.heap.size w2 w3):Jcc w g a ws w3:=h.grown h0 (Jab hb none) (fun _ e=>nomatch e)
theorem Jcc.set{w w2:World}{g a a0:Nat}{ws:List Wd}(h:Jcc w g a ws w2)(h0:Jbb w g a0 ws){p:Addr}(hp:w.heap.size<=p.block)(u:Value):Jcc w g a ws (w2.setCell p u):=
 h.grown h0 (row:=some p.block) ⟨rfl,rfl,rfl,by simp,fun k _ hne=>qdi _ _ _ _ (fun e=>hne (by rw[e]))⟩ (fun k e=>by injection e with e;omega)
def Jqj (o:Option Wd):ByteArray:=match o with | some x=>⟨x.text.toArray⟩ | none=>ByteArray.empty
def Jf5 (o:Option Wd):Int:=match o with | some x=>x.line | none=>0
def wcol (o:Option Wd):Int:=match o with | some x=>x.col | none=>0
theorem Jfc(a:Nat)(ws:List Wd):Jjm a ws= .tuple #[.agg #[(Jqj ws[a]?),(Jf5 ws[a]?:Int),(wcol ws[a]?:Int)],(decide (a<ws.length))]:=by
 unfold Jjm Jqj Jf5 wcol;by_cases h:a<ws.length
 · rw[qah h];simp[wagg,h]
 · rw[qbj (by omega)];simp[Jjq,h]
theorem Jut{ws:List Wd}{a j:Nat}(h:a+j<ws.length):wrow ((ws.drop a).take (j+1))=wrow ((ws.drop a).take j)++[.string (Jqj ws[a+j]?),.int .i64 (Jf5 ws[a+j]?),.int .i64 (wcol ws[a+j]?)]:=by
 rw[qam (by rw[qa2];omega),Jcs,qah h];simp[wrow,Jht,Jqj,Jf5,wcol]
theorem Jg5(w:World)(T:TypeId)(a b c:Value):∀j u,[a,b,c][j]? =some u ->(w.alloc (.cells #[a,b,c] T)).cell? ((⟨w.heap.size,0,none⟩:Addr).add j)=some u:=by
 intro j u hj
 match j,hj with
 | 0,hj=>simp at hj;subst hj;simp[Addr.add]
 | 1,hj=>simp at hj;subst hj;simp[Addr.add]
 | 2,hj=>simp at hj;subst hj;simp[Addr.add]
theorem Jlc{ws:List Wd}{a j:Nat}(hj:a+j<=ws.length)(hall:∀i,i<j ->Jf5 ws[a+i]? =Jf5 ws[a]?)(hs:a+j<ws.length ->Jf5 ws[a+j]? ≠Jf5 ws[a]?):Ja3 a ws=(ws.drop a).take j:=by
 unfold Ja3;by_cases x:a<ws.length
 · rw[qah x]
   simp only
   have w:((ws.drop a).take j).all (fun y=>decide (y.line=ws[a].line))=true:=by
    rw[qdr];intro y v;obtain⟨i,u,e⟩:=qb5 v;rw[qao,qa2] at u;have z:=hall i (by omega);rw[qah (by omega:a+i<ws.length),qah x] at z;rw[List.getElem_take,List.getElem_drop] at e;subst e;exact qaj z
   by_cases h:a+j<ws.length
   · have z:=hs h
     rw[qah h,qah x] at z;exact Jfq _ _ j (by rw[qa2];omega) w (by rw[List.getElem_drop];exact qae z)
   · have e:(ws.drop a).take j=ws.drop a:=qap (by rw[qa2];omega)
     rw[e] at w ⊢;exact Jhr _ _ w
 · rw[qbj (by omega),qcj (by omega)]
   simp
theorem Jmp{ws:List Wd}{a j:Nat}(h:a+j<=ws.length)(hj:j≠0):(wrow ((ws.drop a).take j))[1]? =some (.int .i64 (Jf5 ws[a]?)):=by
 have z:0<((ws.drop a).take j).length:=by rw[qao,qa2];omega
 have:=(Jhu _ 0 z).2.1;rw[Nat.zero_mul,qa7] at this;rw[this,qah (by omega:a<ws.length)];simp[Jf5]
structure J9t (w:World) (g a:Nat) (ws:List Wd) (j xb:Nat) (vo:Value) (wr:World):Prop where
 hj:a+j<=ws.length
 xge:w.heap.size<=xb
 box:Box3 wr xb (Jqj ws[a+j]?) (Jf5 ws[a+j]?) (wcol ws[a+j]?)
 own:wr.ownsRow w.heap.size 266 3 vo j (wrow ((ws.drop a).take j))
 ne:vo.ownBlock≠some xb
 mem:Jcc w g (a+j) ws wr
 all:∀i,i<j ->Jf5 ws[a+i]? =Jf5 ws[a]?
theorem Jmq(w:World)(g a:Nat)(ws:List Wd)(h:Jbb w g a ws):
  Cs 252 #[g] w fun e w'=>∃v,e= .returned v/\w'.ownsRow w.heap.size 266 3 v (Ja3 a ws).length (wrow (Ja3 a ws))/\Jcc w g (a+(Ja3 a ws).length) ws w':=by
 obtain⟨i0,K,J,I,R⟩:=qb2 Jkf;have S:=h.lt;have Hc:=h.few;go_enter Tryz.func252,Tryz.ntmps252
 go_wp2_with (first
  | (go_at_call 165;refine(Je5 _ _ _ _ h).mono ?_;rw[Jfc];rintro e w1 ⟨rfl,V⟩))
 go_loopw [3,4,5] (fun vo vx vi wr=>∃j xb,vx= .pointer (some ⟨xb,0,none⟩)/\vi= .bool (decide (a+j<ws.length))/\J9t w g a ws j xb vo wr) (fun vo _ _ _=>ws.length - J71 vo)
 case atStart=>
  refine⟨0,w1.heap.size,rfl,rfl,⟨h.le,V.size,Box3.new _ _ _ _ _,qaz _ _ _ _,by simp[Value.ownBlock],⟨h.below (V.alloc V.size _),Jab (V.alloc V.size _) _,(V.alloc V.size _).cell (p:=⟨g,1,none⟩) S,(V.alloc V.size _).frozen (p:=⟨g,1,none⟩) S⟩,fun i K=>by omega⟩⟩
 case round=>
  obtain⟨j,xb,rfl,rfl,s⟩:=hrel;have hj:=s.hj;obtain⟨A,c,rfl,Hd,He⟩:=own_slice s.own;obtain⟨xt,P⟩:=exE (Jqj ws[a+j]? );obtain⟨xl,O⟩:=exE (Jf5 ws[a+j]? );obtain⟨xc,N⟩:=exE (wcol ws[a+j]? );obtain⟨l0,H⟩:=exE (Jf5 ws[a]? );have box0:=s.box;rw[<- P,<- O,<- N] at box0;have G:=zI P;have U:=zI O;have F:=zI N;have T:=zI H;clear P O N H;have y1:=box0.c1;by_cases M:a+j<ws.length/\(j=0\/xl=l0)
  · obtain ⟨t,h2⟩:=M
    have E:decide (a+j<ws.length)=true:=qaj t;rw[E];by_cases q:j=0
    · have hz:((j:Int)==0)=true:=by simp[q]
      have hJ:=zI q;clear q h2;go_wp2_with fail
      go_quiet (fail)
      generalize hwq:wr.drewN _=wq;have o:Below wr.heap.size wr wq:=by rw[<- hwq];exact below_drewN (qaa _ _) _
      clear hwq;have own1:=own_below s.own o;have box1:=box0.below o;have mem1:=s.mem.below h o;have p0:=box1.c0;have p1:=box1.c1;have p2:=box1.c2;have Ha:=mem1.gr.size;have n:wrow ((ws.drop a).take (j+1))=wrow ((ws.drop a).take j)++[.string (xt),.int .i64 (xl),.int .i64 (xc)]:=by rw[G.out,U.out,F.out];exact Jut t
      have d:=zI n;clear n
      go_wp2_with (first
       | (at_builtin;refine qdl _ rfl _ _ 362 rfl w.heap.size 266 i0 (.agg #[ByteArray.empty,(0:Int),(0:Int)]) 3 32 Tryz.underlying362 K J I R rfl (by decide) _ _ _ rfl (own1.alloc _) ⟨wq.heap.size,0,none⟩ 1 1 [(xt),(xl:Int),(xc:Int)] rfl rfl (Jg5 _ _ _ _ _) ?c2 ?c3 ?c4 ?c5 ?_
          case c2=>intro u D;simp at D;rcases D with rfl | rfl | rfl<;>rfl
          case c3=>unfold maxLen;omega
          case c4=>omega
          case c5=>simp;omega
          intro v' w3 z y _;rw[<- d.out] at z;obtain⟨A3,c3,rfl,C,_⟩:=own_slice z;have m:=y;have mem3:=(mem1.below h ((qaa wq.heap.size wq).alloc (qab _) _)).grown h y (fun k e=>(own1.lt k e).1);have B:=mem3.gr.size;clear y)
       | (go_at_call 317;refine(Jtw _ _ _ _ mem3.at_).mono ?_;rw[Jfc];rintro e w4 ⟨rfl,at4,gr4,k4⟩
          have b:some g≠(Value.slice A3 (j+1) c3).ownBlock:=fun e=>by have:=(z.lt g e.symm).1;omega
          have own4:=z.kept gr4 (.inr (Ne.symm b));have box4:=(((box0.below o).below ((qaa wq.heap.size wq).alloc (qab _) _)).grown m (Ne.symm s.ne)).grown gr4 (fun e=>by injection e with e;have:=s.xge;omega);have s0:=box4.c0;have s1:=box4.c1;have s2:=box4.c2;have Z:Jnp (a+j) ws=a+(j+1):=by unfold Jnp;rw[qa0 t];omega
          rw[Z] at at4;have mem4:Jcc w g (a+(j+1)) ws w4:=⟨at4,Jas mem3.gr gr4,k4.trans mem3.k1,at4.f1'.trans h.f1'.symm⟩;have mem5:=mem4.below h ((qaa w4.heap.size w4).alloc (qab _) (.cells #[(xt),(xl:Int),(xc:Int)] 266));have x:=mem4.gr.size;clear box4 Z at4 gr4 k4 m)
       | (go_at_call 165;refine(Je5 _ _ _ _ mem5.at_).mono ?_;rw[Jfc];rintro e w6 ⟨rfl,l⟩
          have box6:=(Box3.new w4 266 (xt) (xl) (xc)).below l;have own6:=own_below (own4.alloc _) l;have mem6:=mem5.below h l;have r0:=box6.c0;have r1:=box6.c1;have r2:=box6.c2;have r3:=box6.f0;have r4:=box6.f1;have r5:=box6.f2))
      go_roundw
      case rel=>
       refine⟨j+1,w4.heap.size,rfl,rfl,⟨t,x,box6.set,?_,?_,((mem6.set h x _).set h x _).set h x _,?_⟩⟩
       · have f:(Value.slice A3 (j+1) c3).ownBlock≠some w4.heap.size:=fun e=>by have:=(own4.lt _ e).2;omega
         exact qc5 (qc5 (qc5 own6 f _) f _) f _
       · exact fun e=>by have:=(own4.lt _ e).2;omega
       · intro i K
         rcases Nat.lt_or_ge i j with Y | Y
         · exact s.all i Y
         · have:i=j:=by omega
           subst this;rw[hJ.out,qdg]
      case measure=>simp[J71];omega
    · have Hf:(l0==xl)=true:=by rw[h2.resolve_left q];simp
      have H3:=zI (h2.resolve_left q);clear h2
      obtain⟨g2,rfl⟩:∃g2,A=some ⟨g2,0,none⟩:=by
       rcases s.own.2 with⟨e,h0⟩ | ⟨g2,_,_,e,_⟩
       · exact absurd h0 q
       · injection e with e;exact⟨g2,e⟩
      have z1:wr.cell? ⟨g2,1,none⟩=some (.int .i64 (l0)):=(s.own.cellAt 1 (by omega)).trans (by rw[T.out];exact Jmp (by omega) q);have Hb:(0:Int)<(j:Int):=(by omega);have hz:((j:Int)==0)=false:=qat.2 (by omega);go_wp2_with fail
      go_quiet (fail)
      generalize hwq:wr.drewN _=wq;have o:Below wr.heap.size wr wq:=by rw[<- hwq];exact below_drewN (qaa _ _) _
      clear hwq;have own1:=own_below s.own o;have box1:=box0.below o;have mem1:=s.mem.below h o;have p0:=box1.c0;have p1:=box1.c1;have p2:=box1.c2;have Ha:=mem1.gr.size;have n:wrow ((ws.drop a).take (j+1))=wrow ((ws.drop a).take j)++[.string (xt),.int .i64 (xl),.int .i64 (xc)]:=by rw[G.out,U.out,F.out];exact Jut t
      have d:=zI n;clear n
      go_wp2_with (first
       | (at_builtin;refine qdl _ rfl _ _ 362 rfl w.heap.size 266 i0 (.agg #[ByteArray.empty,(0:Int),(0:Int)]) 3 32 Tryz.underlying362 K J I R rfl (by decide) _ _ _ rfl (own1.alloc _) ⟨wq.heap.size,0,none⟩ 1 1 [(xt),(xl:Int),(xc:Int)] rfl rfl (Jg5 _ _ _ _ _) ?c2 ?c3 ?c4 ?c5 ?_
          case c2=>intro u D;simp at D;rcases D with rfl | rfl | rfl<;>rfl
          case c3=>unfold maxLen;omega
          case c4=>omega
          case c5=>simp;omega
          intro v' w3 z y _;rw[<- d.out] at z;obtain⟨A3,c3,rfl,C,_⟩:=own_slice z;have m:=y;have mem3:=(mem1.below h ((qaa wq.heap.size wq).alloc (qab _) _)).grown h y (fun k e=>(own1.lt k e).1);have B:=mem3.gr.size;clear y)
       | (go_at_call 317;refine(Jtw _ _ _ _ mem3.at_).mono ?_;rw[Jfc];rintro e w4 ⟨rfl,at4,gr4,k4⟩
          have b:some g≠(Value.slice A3 (j+1) c3).ownBlock:=fun e=>by have:=(z.lt g e.symm).1;omega
          have own4:=z.kept gr4 (.inr (Ne.symm b));have box4:=(((box0.below o).below ((qaa wq.heap.size wq).alloc (qab _) _)).grown m (Ne.symm s.ne)).grown gr4 (fun e=>by injection e with e;have:=s.xge;omega);have s0:=box4.c0;have s1:=box4.c1;have s2:=box4.c2;have Z:Jnp (a+j) ws=a+(j+1):=by unfold Jnp;rw[qa0 t];omega
          rw[Z] at at4;have mem4:Jcc w g (a+(j+1)) ws w4:=⟨at4,Jas mem3.gr gr4,k4.trans mem3.k1,at4.f1'.trans h.f1'.symm⟩;have mem5:=mem4.below h ((qaa w4.heap.size w4).alloc (qab _) (.cells #[(xt),(xl:Int),(xc:Int)] 266));have x:=mem4.gr.size;clear box4 Z at4 gr4 k4 m)
       | (go_at_call 165;refine(Je5 _ _ _ _ mem5.at_).mono ?_;rw[Jfc];rintro e w6 ⟨rfl,l⟩
          have box6:=(Box3.new w4 266 (xt) (xl) (xc)).below l;have own6:=own_below (own4.alloc _) l;have mem6:=mem5.below h l;have r0:=box6.c0;have r1:=box6.c1;have r2:=box6.c2;have r3:=box6.f0;have r4:=box6.f1;have r5:=box6.f2))
      go_roundw
      case rel=>
       refine⟨j+1,w4.heap.size,rfl,rfl,⟨t,x,box6.set,?_,?_,((mem6.set h x _).set h x _).set h x _,?_⟩⟩
       · have f:(Value.slice A3 (j+1) c3).ownBlock≠some w4.heap.size:=fun e=>by have:=(own4.lt _ e).2;omega
         exact qc5 (qc5 (qc5 own6 f _) f _) f _
       · exact fun e=>by have:=(own4.lt _ e).2;omega
       · intro i K
         rcases Nat.lt_or_ge i j with Y | Y
         · exact s.all i Y
         · have:i=j:=by omega
           subst this;rw[<- U.out,<- T.out];exact H3.out
      case measure=>simp[J71];omega
  · by_cases t:a+j<ws.length
    · have q:j≠0:=fun e=>M ⟨t,.inl e⟩
      have L: ¬ xl=l0:=fun e=>M ⟨t,.inr e⟩;have E:decide (a+j<ws.length)=true:=qaj t;rw[E]
      obtain⟨g2,rfl⟩:∃g2,A=some ⟨g2,0,none⟩:=by
       rcases s.own.2 with⟨e,h0⟩ | ⟨g2,_,_,e,_⟩
       · exact absurd h0 q
       · injection e with e;exact⟨g2,e⟩
      have z1:wr.cell? ⟨g2,1,none⟩=some (.int .i64 (l0)):=(s.own.cellAt 1 (by omega)).trans (by rw[T.out];exact Jmp (by omega) q);have Hb:(0:Int)<(j:Int):=(by omega);have hz:((j:Int)==0)=false:=qat.2 (by omega);have R:(l0==xl)=false:=by simp;exact fun e=>L e.symm
      have r:=zI (Jlc s.hj s.all (fun _=>by rw[<- U.out,<- T.out];exact L));have W:((ws.drop a).take j).length=j:=by rw[qao,qa2];omega
      clear L;go_wp2_with fail
      go_quiet (fail)
      go_wp2_with fail
      go_ret;refine⟨_,rfl,?_,?_⟩
      · rw[r.out,W];exact own_below s.own (below_drewN (qaa _ _) _)
      · rw[r.out,W];exact s.mem.grown h (Jab (below_drewN (qaa _ _) _) none) (fun k e=>by cases e)
    · have E:decide (a+j<ws.length)=false:=qae t
      have r:=zI (Jlc s.hj s.all (fun h=>absurd h t));have W:((ws.drop a).take j).length=j:=by rw[qao,qa2];omega
      rw[E];go_wp2_with fail
      go_quiet (fail)
      go_wp2_with fail
      go_ret;refine⟨_,rfl,?_,?_⟩
      · rw[r.out,W];exact own_below s.own (below_drewN (qaa _ _) _)
      · rw[r.out,W];exact s.mem.grown h (Jab (below_drewN (qaa _ _) _) none) (fun k e=>by cases e)
theorem Jfd{w:World}{B:Nat}{e T:TypeId}{k:Nat}{v:Value}{n:Nat}{xs:List Value}{b:Nat}{cs:Array Value}{fr:Nat×Nat}(hown:w.ownsRow B e k v n xs)(hb:w.heap[b]? =some (.cells cs T fr))(hTe:T≠e):v.ownBlock≠some b:=by
 rcases hown.2 with⟨rfl,_⟩ | ⟨g,cap,cur,rfl,_,z,_⟩
 · simp[Value.ownBlock]
 · intro h
   simp only[Value.ownBlock,Option.some.injEq] at h;subst h;rw[z] at hb;simp only[Option.some.injEq,Obj.cells.injEq] at hb;exact hTe hb.2.1.symm
structure PS (w1 w:World) (g gl a:Nat) (ws:List Wd) (nm:ByteArray) (v:Value) (ts:List Ti):Prop where
 base:Jbb w1 g 0 ws
 mem:Jcc w1 g a ws w
 bx:Bx w gl 264 #[g,nm,v]
 own:w.ownsRow w1.heap.size 167 4 v ts.length (ts.flatMap Ti.cells)
 gge:w1.heap.size<=gl
 ok:∀t∈ts,t.Ok
 few:ts.length<=5
 size:nm.size<=4000
section
variable {w1 w w':World} {g gl a a':Nat} {ws:List Wd} {nm nm':ByteArray} {v v':Value} {ts ts':List Ti}
theorem PS.ne(h:PS w1 w g gl a ws nm v ts):v.ownBlock≠some gl:=Jfd h.own h.bx.blk (by decide)
theorem PS.glt(h:PS w1 w g gl a ws nm v ts):g<gl:=qar h.base.lt h.gge
theorem PS.below(h:PS w1 w g gl a ws nm v ts)(hb:Below w.heap.size w w'):PS w1 w' g gl a ws nm v ts:=
 ⟨h.base,h.mem.grown h.base (Jab hb none) (fun k e=>by cases e),h.bx.below hb,own_below h.own hb,h.gge,h.ok,h.few,h.size⟩
theorem PS.line(h:PS w1 w g gl a ws nm v ts)(hl:Jcc w g a' ws w'):PS w1 w' g gl a' ws nm v ts:=
 ⟨h.base,⟨hl.at_,Jas h.mem.gr hl.gr,hl.k1.trans h.mem.k1,hl.k2.trans h.mem.k2⟩,h.bx.grown hl.gr (fun e=>by injection e with e;have:=h.glt;omega),
  h.own.kept hl.gr (by
   cases hv:v.ownBlock with
   | none=>exact .inl rfl
   | some k=>exact .inr fun e=>by injection e with e;have:=(h.own.lt k hv).1;have:=h.base.lt;omega),h.gge,h.ok,h.few,h.size⟩
theorem PS.named(h:PS w1 w g gl a ws nm v ts)(hs:nm'.size<=4000):PS w1 (w.setCell ⟨gl,1,none⟩ nm') g gl a ws nm' v ts:=
 ⟨h.base,h.mem.set h.base (p:=⟨gl,1,none⟩) h.gge _,by simpa using h.bx.set 1 nm',Jbz h.own (fun k hk e=>h.ne (by rw[hk,e])) _,h.gge,h.ok,h.few,hs⟩
theorem PS.put(h:PS w1 w g gl a ws nm v ts)(hg:w.grownBy w' v.ownBlock)(ho:w'.ownsRow w1.heap.size 167 4 v' ts'.length (ts'.flatMap Ti.cells))(hok:∀t∈ts',t.Ok)(hfew:ts'.length<=5):
  PS w1 (w'.setCell ⟨gl,2,none⟩ v') g gl a ws nm v' ts':=by
 have z:=h.bx.grown hg (fun e=>h.ne e.symm);have y:v'.ownBlock≠some gl:=Jfd ho z.blk (by decide)
 exact⟨h.base,(h.mem.grown h.base hg (fun k hk=>(h.own.lt k hk).1)).set h.base (p:=⟨gl,2,none⟩) h.gge _,by simpa using z.set 2 v',
  Jbz ho (fun k hk e=>y (by rw[hk,e])) _,h.gge,hok,hfew,h.size⟩
end
structure WL (w:World) (b off:Nat) (l:List Wd):Prop where
 lt:b<w.heap.size
 at_:∀j u,(wrow l)[j]? =some u ->w.cell? ⟨b,off+j,none⟩=some u
theorem WL.below{w w':World}{b off:Nat}{l:List Wd}(h:WL w b off l)(hb:Below w.heap.size w w'):WL w' b off l:=
 ⟨qar h.lt hb.size,fun j u hu=>(hb.cell (p:=⟨b,off+j,none⟩) h.lt).trans (h.at_ j u hu)⟩
theorem WL.text{w:World}{b off:Nat}{l:List Wd}(h:WL w b off l)(j:Nat)(hj:j<l.length):w.cell? ⟨b,off+j*3,none⟩=some (.string ⟨(txt (txts l) j).toArray⟩):=by
 rw[J6j hj];exact h.at_ _ _ (Jhu l j hj).1
theorem Jf6(a:Nat)(ws:List Wd):Ja3 a ws=Jdv (ws.drop a):=by
 unfold Ja3 Jdv;by_cases h:a<ws.length
 · rw[qah h,qbm h]
 · rw[qbj (by omega),qcj (by omega)]
theorem Jjx(l:List Wd):(txts l).length=l.length:=by simp[txts]
theorem toList_mk(l:List UInt8):(⟨l.toArray⟩:ByteArray).toList=l:=by rw[qaw]
theorem Jmr(l:List Wd):∀x∈Jdv l,x∈l:=by
 cases l with
 | nil=>simp[Jdv]
 | cons x r=>exact fun y hy=>(List.takeWhile_sublist (fun y=>decide (y.line=x.line))).subset (show y∈(x::r).takeWhile (fun y=>decide (y.line=x.line)) from hy)
theorem Jzj{l:List Wd}{n:Nat}(h:∀x∈l,x.text.length<=n)(i:Nat):(txt (txts l) i).length<=n:=by
 by_cases z:i<l.length
 · rw[J6j z];exact h _ (qan z)
 · unfold txt txts
   rw[qdf,qbj (by simpa using z)];simp
theorem Joh(w1 w:World)(g gl a:Nat)(ws:List Wd)(nm:ByteArray)(v:Value)(ts:List Ti)(h:PS w1 w g gl a ws nm v ts)(hsz:∀x∈ws,x.text.length<=4000):
  Cs 166 #[gl] w fun e w'=>e= .returned (Jfl (txts (Ja3 a ws)))/\∃nm',PS w1 w' g gl (a+(Ja3 a ws).length) ws nm' v ts/\(Jfl (txts (Ja3 a ws))=true ->nm'=⟨(txt (txts (Ja3 a ws)) 1).toArray⟩):=by
 have c0:=h.bx.at_ 0 rfl;have f:=zI (Jmq w g a ws h.mem.at_);have t:∀x∈Ja3 a ws,x.text.length<=4000:=fun x hx=>hsz x (by rw[Jf6] at hx;exact qc0 (Jmr _ x hx));have U:=zI (Jzj t);clear hsz t;obtain⟨l,T⟩:∃l,Ja3 a ws=l:=⟨_,rfl⟩;rw[T] at f U ⊢;clear T;by_cases s:l.length=2
 rotate_left
 · have S:=zI (show Jfl (txts l)=false from by unfold Jfl;rw[Jjx,qae s];rfl)
   have d:((l.length:Int) !=2)=true:=bne_iff_ne.2 (by omega);clear s;go_enter Tryz.func166,Tryz.ntmps166;go_wp2_with (go_at_call 252;refine f.out.mono ?_;rintro e w2 ⟨vl,rfl,z,y⟩;obtain⟨A,c,rfl,o,u⟩:=own_slice z)
   go_ret;exact⟨by rw[S.out];rfl,nm,h.line y,fun e=>by rw[S.out] at e;cases e⟩
 · have d:((l.length:Int) !=2)=false:=by rw[s];rfl
   obtain⟨t0,n⟩:=exE (txt (txts l) 0);obtain⟨t1,r⟩:=exE (txt (txts l) 1);have m:=U.out 1;rw[<- r] at m ⊢;have q:=zI n;have Z:=zI r;have k:=zI (show Jfl (txts l)=(t0==Jdb) from by unfold Jfl;rw[Jjx,qaj s,q.out];rfl);have p:=zI s;have j:wrow l≠[]:=fun e=>by have:=congrArg List.length e;rw[Je3,s] at this;simp at this
   have Y:(⟨t1.toArray⟩:ByteArray).size<=4000:=by rw[<- Jac,toList_mk];exact m
   have g1:(1:Int)<(l.length:Int):=by omega
   have g0:(0:Int)<(l.length:Int):=by omega
   clear n r s;cases hq:(t0==Jdb)
   · rw [hq] at k
     have R:(t0==([112,111,108,105,99,121]:List UInt8))=false:=hq;clear hq;go_enter Tryz.func166,Tryz.ntmps166
     go_wp2_with (first
      | (go_at_call 252;refine f.out.mono ?_;rintro e w2 ⟨vl,rfl,z,y⟩;obtain⟨A,c,rfl,o,u⟩:=own_slice z
         obtain⟨b,off,rfl,W,i⟩:=u.at_ j;have W2:WL w2 b off l:=⟨W,i⟩;have x0:=W2.text 0 (by have:=p.out;omega);rw[Nat.zero_mul,qdg,<- q.out] at x0;have P2:=zI (h.line y);clear i u y z W2))
     go_ret;exact⟨by rw[k.out];rfl,nm,P2.out,fun e=>by rw[k.out] at e;cases e⟩
   · rw [hq] at k
     have R:(t0==([112,111,108,105,99,121]:List UInt8))=true:=hq;clear hq;go_enter Tryz.func166,Tryz.ntmps166
     go_wp2_with (first
      | (go_at_call 252;refine f.out.mono ?_;rintro e w2 ⟨vl,rfl,z,y⟩;obtain⟨A,c,rfl,o,u⟩:=own_slice z
         obtain⟨b,off,rfl,W,i⟩:=u.at_ j;have W2:WL w2 b off l:=⟨W,i⟩;have x0:=W2.text 0 (by have:=p.out;omega);have x1:=W2.text 1 (by have:=p.out;omega);rw[Nat.zero_mul,qdg,<- q.out] at x0;rw[Nat.one_mul,<- Z.out] at x1;have P2:=zI (h.line y);clear i u y z W2)
      | (go_at_call 82;refine(Jcv _ _ (by omega)).mono ?_;rintro e w3 ⟨rfl,V⟩
         have P3:=zI (P2.out.below V);have c1:=P3.out.bx.at_ 1 rfl;have f1:=P3.out.bx.free 1))
     go_ret;exact⟨by rw[k.out];rfl,_,P3.out.named Y,fun _=>rfl⟩
open Go.ChangeAt Go.ChangeShapes Go.Deep Go.WideShapes
theorem Jzk(l:List Wd)(i:Nat)(hi:i+1<l.length)(b off o n c:Nat)(what:ByteArray)(wl:List UInt8)(hwl:what.toList=wl)(w:World)(hn:2<=n)(ho:o=off+i*3)(W:WL w b off l):
  Cs 253 #[.slice (some ⟨b,o,none⟩) n c,what] w (RS w (.tuple #[(Jh0 (txts l) i:Int),(Jhz (txts l) i wl)])):=by
 subst ho hwl;have z:=W.text (i+1) hi;rw[show off+(i+1)*3=off+i*3+3 from by omega] at z;have h:=J67 b (off+i*3) n c _ _ what w hn (W.text i (by omega)) z;rw[toList_mk] at h;unfold J66 at h;rw[toList_mk] at h;exact h
theorem Jsq:(⟨#[101,118,101,114,121]⟩:ByteArray).toList=Jcq:=by rw[qaw];rfl
theorem Jwk:(⟨#[107,101,101,112]⟩:ByteArray).toList=Jfm:=by rw[qaw];rfl
theorem Jqk:(⟨#[115,104,97,114,100,115]⟩:ByteArray).toList=Jbu:=by rw[qaw];rfl
structure TS (w:World) (gl:Nat) (p:Value) (nm:ByteArray) (v:Value) (b off:Nat) (tb:ByteArray):Prop where
 bx:Bx w gl 264 #[p,nm,v]
 lt:b<w.heap.size
 at_:w.cell? ⟨b,off+3,none⟩=some (.string tb)
section
variable {w w':World} {gl:Nat} {p:Value} {nm:ByteArray} {v:Value} {b off:Nat} {tb:ByteArray}
theorem TS.below(h:TS w gl p nm v b off tb)(hb:Below w.heap.size w w'):TS w' gl p nm v b off tb:=⟨h.bx.below hb,qar h.lt hb.size,(hb.cell (p:=⟨b,off+3,none⟩) h.lt).trans h.at_⟩
theorem TS.alloc(h:TS w gl p nm v b off tb)(o:Obj):TS (w.alloc o) gl p nm v b off tb:=h.below ((qaa _ _).alloc (qab _) o)
end
theorem J72{ts:List Ti}{t:Ti}(h:∀x∈ts,x.Ok)(ht:t.Ok):∀x∈ts++[t],x.Ok:=by
 intro x z;rcases qbe.1 z with z | z
 · exact h x z
 · rw[qa1.1 z];exact ht
theorem J4o{l:List Wd}(h:∀i,(txt (txts l) i).length<=4000):(Jnv (txts l)).Ok:=
 ⟨by show(⟨(txt (txts l) 1).toArray⟩:ByteArray).size<=maxLen;rw[<- Jac,toList_mk];have:=h 1;unfold maxLen;omega,Jnw _ _,Jnw _ _,Jnw _ _⟩
theorem Jsr{w:World}{B B2 b off n c m:Nat}{v:Value}{xs ys:List Value}(h:w.ownsRow B 167 4 v m xs)(k:w.ownsRow B2 266 3 (.slice (some ⟨b,off,none⟩) n c) n ys):some b≠v.ownBlock:=by
 rcases k.2 with⟨e,_⟩ | ⟨g,cap,cur,e,_,z,_⟩
 · cases e
 · cases e
   exact(Jfd h z (by decide)).symm
theorem Jql(w1 w:World)(g gl a:Nat)(ws:List Wd)(nm:ByteArray)(v:Value)(ts:List Ti)(h:PS w1 w g gl a ws nm v ts)(hsz:∀x∈ws,x.text.length<=4000):
  Cs 167 #[gl] w fun e w'=>e= .returned (Jdf (txts (Ja3 a ws)) ts.length)/\∃v' ts',PS w1 w' g gl (a+(Ja3 a ws).length) ws nm v' ts'/\(Jdf (txts (Ja3 a ws)) ts.length=true ->ts'=ts++[Jnv (txts (Ja3 a ws))]):=by
 have c0:=h.bx.at_ 0 rfl;have d:=zI (Jmq w g a ws h.mem.at_);have i:∀x∈Ja3 a ws,x.text.length<=4000:=fun x hx=>hsz x (by rw[Jf6] at hx;exact qc0 (Jmr _ x hx));have C:=zI (Jzj i);clear hsz i;obtain⟨l,hl⟩:∃l,Ja3 a ws=l:=⟨_,rfl⟩;rw[hl] at d C ⊢;clear hl;by_cases o:l.length=8
 rotate_left
 · have p:=zI (show Jdf (txts l) ts.length=false from by unfold Jdf;rw[Jjx,qae o];rfl)
   have Hj:((l.length:Int) !=8)=true:=bne_iff_ne.2 (by omega);clear o;go_enter Tryz.func167,Tryz.ntmps167;go_wp2_with (go_at_call 252;refine d.out.mono ?_;rintro e w2 ⟨vl,rfl,z,y⟩;obtain⟨A,c,rfl,n,u⟩:=own_slice z)
   go_ret;exact⟨by rw[p.out];rfl,v,ts,h.line y,fun e=>by rw[p.out] at e;cases e⟩
 obtain⟨t0,J⟩:=exE (txt (txts l) 0);have m:=zI J;have K:=zI (show Jdf (txts l) ts.length=(((t0==Jhb) && !decide (ts.length=5)) && (Jhz (txts l) 2 Jcq && (Jhz (txts l) 4 Jfm && Jhz (txts l) 6 Jbu))) from by unfold Jdf;rw[Jjx,qaj o,m.out];rfl);have s:=zI o;have k:wrow l≠[]:=fun e=>by have:=congrArg List.length e;rw[Je3,o] at this;simp at this
 rw[o] at d ⊢;clear J;cases hq:(t0==Jhb)
 · have p:=zI (show Jdf (txts l) ts.length=false from by rw[K.out,hq];rfl)
   have he:(t0==([116,105,101,114]:List UInt8))=false:=hq;clear hq K o;go_enter Tryz.func167,Tryz.ntmps167
   go_wp2_with (first
    | (go_at_call 252;refine d.out.mono ?_;rintro e w2 ⟨vl,rfl,z,y⟩;obtain⟨A,c,rfl,n,u⟩:=own_slice z
       obtain⟨b,off,rfl,I,f⟩:=u.at_ k;have W2:WL w2 b off l:=⟨I,f⟩;have x0:=W2.text 0 (by have:=s.out;omega);rw[Nat.zero_mul,qdg,<- m.out] at x0;have P2:=zI (h.line y);clear f u y z W2))
   go_ret;exact⟨by rw[p.out];rfl,v,ts,P2.out,fun e=>by rw[p.out] at e;cases e⟩
 have he:(t0==([116,105,101,114]:List UInt8))=true:=hq;obtain⟨Av,cv,rfl,_,_⟩:=own_slice h.own;by_cases D:ts.length=5
 · have p:=zI (show Jdf (txts l) ts.length=false from by rw[K.out,hq,qaj D];rfl)
   have H:((ts.length:Int)==5)=true:=beq_iff_eq.2 (by omega);clear hq K o D;go_enter Tryz.func167,Tryz.ntmps167
   go_wp2_with (first
    | (go_at_call 252;refine d.out.mono ?_;rintro e w2 ⟨vl,rfl,z,y⟩;obtain⟨A,c,rfl,n,u⟩:=own_slice z
       obtain⟨b,off,rfl,I,f⟩:=u.at_ k;have W2:WL w2 b off l:=⟨I,f⟩;have x0:=W2.text 0 (by have:=s.out;omega);rw[Nat.zero_mul,qdg,<- m.out] at x0;have P2:=zI (h.line y);have c2:=P2.out.bx.at_ 2 rfl;clear f u y z W2))
   go_ret;exact⟨by rw[p.out];rfl,_,ts,P2.out,fun e=>by rw[p.out] at e;cases e⟩
 have p:=zI (show Jdf (txts l) ts.length=(Jhz (txts l) 2 Jcq && (Jhz (txts l) 4 Jfm && Jhz (txts l) 6 Jbu)) from by rw[K.out,hq,qae D];rfl);have H:((ts.length:Int)==5)=false:=qat.2 (by omega);have Hi:ts.length<5:=by have:=h.few;omega
 have G:=C.out 1;have B:=zI (J4o C.out);clear hq K o D;rw[p.out];obtain⟨i0,hi,hJ,Ha,Hb⟩:=qb2 Jo9;go_enter Tryz.func167,Tryz.ntmps167
 go_upto_region 7 with(first
  | (go_at_call 252;refine d.out.mono ?_;rintro e w2 ⟨vl,rfl,z,y⟩;obtain⟨A,c,rfl,n,u⟩:=own_slice z
     obtain⟨b,off,rfl,I,f⟩:=u.at_ k;have W2:WL w2 b off l:=⟨I,f⟩;have x0:=W2.text 0 (by have:=s.out;omega);rw[Nat.zero_mul,qdg,<- m.out] at x0;have P2:=zI (h.line y);have c2:=P2.out.bx.at_ 2 rfl;have Hc:2<=c:=(by omega);have Hd:4<=c:=(by omega);have He:6<=c:=(by omega);have q:=zI W2;have Hk:=zI (Jsr P2.out.own z);clear f u y z W2)
  | (go_at_call 253;(with_reducible refine(Jzk l 2 (by have:=s.out;omega) b off (off+6) _ _ _ Jcq Jsq _ (by omega) rfl q.out).mono ?_);rintro e w3 ⟨rfl,rfl⟩)
  | (go_at_call 253;(with_reducible refine(Jzk l 4 (by have:=s.out;omega) b off (off+12) _ _ _ Jfm Jwk _ (by omega) rfl q.out).mono ?_);rintro e w3 ⟨rfl,rfl⟩)
  | (go_at_call 253;(with_reducible refine(Jzk l 6 (by have:=s.out;omega) b off (off+18) _ _ _ Jbu Jqk _ (by omega) rfl q.out).mono ?_);rintro e w3 ⟨rfl,rfl⟩))
 have Z:=(qaa w2.heap.size w2).drew;have PD:=zI (P2.out.below Z);have x1:=(q.out.below Z).text 1 (by have:=s.out;omega);rw[Nat.one_mul] at x1;have d2:=PD.out.bx.at_ 2 rfl;obtain⟨t1,j⟩:=exE (txt (txts l) 1);rw[<- j] at x1 G;have Hl:=zI j;have Hf:(⟨t1.toArray⟩:ByteArray).size<=4000:=by rw[<- Jac,toList_mk];exact G
 obtain⟨tb,Y⟩:∃tb:ByteArray,tb=⟨t1.toArray⟩:=⟨_,rfl⟩;rw[<- Y] at x1 Hf;have V:=zI (show Jnv (txts l)=⟨tb,Jh0 (txts l) 2,Jh0 (txts l) 4,Jh0 (txts l) 6⟩ from by rw[Y,j];rfl);obtain⟨q1,U⟩:∃q1,Jh0 (txts l) 2=q1:=⟨_,rfl⟩;obtain⟨q2,T⟩:∃q2,Jh0 (txts l) 4=q2:=⟨_,rfl⟩;obtain⟨q3,S⟩:∃q3,Jh0 (txts l) 6=q3:=⟨_,rfl⟩;obtain⟨B1,R⟩:∃B1,Jhz (txts l) 2 Jcq=B1:=⟨_,rfl⟩;obtain⟨B2,P⟩:∃B2,Jhz (txts l) 4 Jfm=B2:=⟨_,rfl⟩;obtain⟨B3,O⟩:∃B3,Jhz (txts l) 6 Jbu=B3:=⟨_,rfl⟩;rw[U,T,S] at V;rw[U,T,S,R,P,O];have N:=zI (And.intro R (And.intro P O));clear x0 c0 c2 j Y U T S R P O he H k n Hc Hd He d;have Hg:=zI (show ∀W,Below w2.drew.heap.size w2.drew W ->w1.heap.size<=(W.alloc (.cells #[tb,(q1:Int),(q2:Int),(q3:Int)] 167)).heap.size from fun W hW=>by have:=hW.size;have:=PD.out.mem.gr.size;simp;omega);have g1:(1:Int)<8:=by decide
 have S0:TS w2.drew gl g nm (.slice Av ts.length cv) b off tb:=⟨PD.out.bx,(q.out.below Z).lt,x1⟩;have Hh:=zI (show some gl≠(Value.slice Av ts.length cv).ownBlock from PD.out.ne.symm);have F:=zI (J6h ⟨tb,q1,q2,q3⟩);clear d2 x1;have d2:=S0.bx.at_ 2 rfl;have x1:=S0.at_
 go_region_law (first
   | (refine Jb6 _ (by rfl) _ _ 99 (by rfl) w1.heap.size 167 i0 _ 4 40 Tryz.underlying99 hi hJ Ha Hb rfl (by decide) (.slice Av ts.length cv) ts.length (ts.flatMap Ti.cells) (by rfl) (P4.out.own.alloc _) (some ⟨w4.heap.size,0,none⟩) 1 1 (Ti.cells ⟨tb,q1,q2,q3⟩) (by rfl) rfl (Sl.new w4 167 w4.heap.size (Ti.cells ⟨tb,q1,q2,q3⟩) #[tb,(q1:Int),(q2:Int),(q3:Int)] rfl rfl) F.out (by unfold maxLen;omega) (by omega) (Hg.out _ M) ?_
      intro v' w5 r t _;obtain⟨A5,c5,e5,E⟩:=Jts r;subst e5;have S5:=zI ((S4.out.alloc _).bx.grown t Hh.out);have d5:=S5.out.at_ 2 rfl;have f5:=S5.out.free 2)
   | (go_simp
      go_at_call 82
      refine(Jcv _ _ (by omega)).mono ?_;rintro e w4 ⟨rfl,M⟩;have P4:=zI (PD.out.below M);have S4:=zI (S0.below M);have d4:=S4.out.bx.at_ 2 rfl;have d4a:=(S4.out.alloc (.cells #[tb,(q1:Int),(q2:Int),(q3:Int)] 167)).bx.at_ 2 rfl))
 all_goals
  have e1:(ts++[(⟨tb,q1,q2,q3⟩:Ti)]).length=ts.length+1:=by simp
  have e2:(ts++[(⟨tb,q1,q2,q3⟩:Ti)]).flatMap Ti.cells=ts.flatMap Ti.cells++Ti.cells ⟨tb,q1,q2,q3⟩:=by simp
  have L:=J72 h.ok B.out;rw[V.out] at L;have P6:=zI ((P4.out.below ((qaa _ _).alloc (qab _) _)).put (v':= .slice A5 (ts.length+1) c5) (ts':=ts++[⟨tb,q1,q2,q3⟩]) t (by rw[e1,e2];exact r) L (by rw[e1];omega));clear r t E L;cases B1<;>cases B2<;>cases B3
  all_goals
   go_wp2;go_ret;exact⟨by rw[N.out.1,N.out.2.1,N.out.2.2];rfl,_,_,P6.out,fun _=>by rw[V.out]⟩
