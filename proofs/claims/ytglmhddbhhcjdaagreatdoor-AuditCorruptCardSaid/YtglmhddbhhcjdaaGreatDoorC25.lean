/- Laws that the walk of the last text wants. -/
import Derived.Test.YtglmhddbhhcjdaaGreatDoorC24
import Derived.Test.YtglmhddbhhcjdaaGreatDoorC18
set_option maxRecDepth 100000
set_option linter.unusedSimpArgs false
set_option maxHeartbeats 4000000
namespace Go.Proofs.YtglmhddbhhcjdaaGreatDoor
open Go.RowKit Go.Maps
def adr (o:Option (Nat×Nat)):Option Addr:=o.map fun p=>⟨p.1,p.2,none⟩
def Jz7 (o:Option Addr):Option (Option (Nat×Nat)):=match o with
 | none=>some none
 | some ⟨b,off,none⟩=>some (some (b,off))
 | _=>none
theorem Jz8(o:Option (Nat×Nat)):Jz7 (adr o)=some o:=by cases o<;>rfl
theorem Jqs{o:Option Addr}{p:Option (Nat×Nat)}(h:Jz7 o=some p):o=adr p:=by
 unfold Jz7 at h;split at h
 · cases h;rfl
 · cases h;rfl
 · cases h
structure PRaw where
 id:Int
 t:Int
 s:Int
 p:Int
 o:Int
 A:Option (Nat×Nat)
 n:Nat
 c:Nat
 B:Option (Nat×Nat)
 k:Nat
 d:Nat
abbrev PRaw.cells (x:PRaw):List Value:=[.int .u64 x.id,(x.t:Int),(x.s:Int),(x.p:Int),(x.o:Int),.slice (adr x.A) x.n x.c,.slice (adr x.B) x.k x.d]
abbrev PRaw.val (x:PRaw):Value:= .agg #[.int .u64 x.id,(x.t:Int),(x.s:Int),(x.p:Int),(x.o:Int),.slice (adr x.A) x.n x.c,.slice (adr x.B) x.k x.d]
def PRaw.zero:PRaw:=⟨0,0,0,0,0,none,0,0,none,0,0⟩
def adrD (o:Option (Nat×Nat)):DataW Unit:=match o with
 | none=> .nil
 | some p=> .agg [.lit (.int .i64 p.1),.lit (.int .i64 p.2)]
theorem Juz{a b:Option (Nat×Nat)}(h:adrD a=adrD b):a=b:=by
 cases a with
 | none=>cases b with
   | none=>rfl
   | some y=>simp[adrD] at h
 | some x=>cases b with
   | none=>simp[adrD] at h
   | some y=>
     obtain⟨x1,x2⟩:=x;obtain⟨y1,y2⟩:=y;simp[adrD] at h;obtain⟨z,w⟩:=h;have e1:x1=y1:=(by omega);have e2:x2=y2:=(by omega);rw[e1,e2]
def prD (x:PRaw):DataW Unit:= .agg [.lit (.int .u64 x.id),.lit (.int .i64 x.t),.lit (.int .i64 x.s),.lit (.int .i64 x.p),.lit (.int .i64 x.o),adrD x.A,.lit (.int .i64 x.n),.lit (.int .i64 x.c),adrD x.B,.lit (.int .i64 x.k),.lit (.int .i64 x.d)]
theorem Jz9{x y:PRaw}(h:prD x=prD y):x=y:=by
 obtain⟨a1,a2,a3,a4,a5,a6,a7,a8,a9,a10,a11⟩:=x;obtain⟨b1,b2,b3,b4,b5,b6,b7,b8,b9,b10,b11⟩:=y;simp only[prD,DataW.agg.injEq,List.cons.injEq,DataW.lit.injEq,Lit.int.injEq,true_and,and_true,Int.natCast_inj] at h;obtain⟨v,u,t,s,r,q,p,o,n,z,w⟩:=h;rw[v,u,t,s,r,Juz q,p,o,Juz n,z,w]
def Jie (v:Value):Option (DataW Unit×List MemPlace):=match v with
 | .agg xs=>match xs.toList with
   | [.int .u64 id,.int .i64 t,.int .i64 s,.int .i64 p,.int .i64 o,.slice A n c,.slice B k d]=>match Jz7 A,Jz7 B with
     | some a,some b=>some (prD ⟨id,t,s,p,o,a,n,c,b,k,d⟩,[])
     | _,_=>none
   | _=>none
 | _=>none
theorem Jlh(x:PRaw):Jie x.val=some (prD x,[]):=by
 unfold Jie PRaw.val;simp only[Jz8]
theorem Jqt{v:Value}{z:DataW Unit×List MemPlace}(h:Jie v=some z):∃x:PRaw,v=x.val/\z=(prD x,[]):=by
 unfold Jie at h;split at h
 · next xs=>
   split at h
   · next id t s p o A n c B k d e=>
     split at h
     · next a b ha hb=>
       cases h
       refine⟨⟨id,t,s,p,o,a,n,c,b,k,d⟩,?_,rfl⟩;show Value.agg xs=Value.agg _;rw[<- Jqs ha,<- Jqs hb]
       congr 1
       exact(show xs=xs.toList.toArray from by simp).trans (by rw[e])
     · cases h
   · cases h
 · cases h
theorem J0a(w:World):(zeroValue 316).run Tryz.prog w= .ok PRaw.zero.val w:=by kernel_rfl
theorem Jmw:Keyed Tryz.prog 323:=Keyed.of_law (deep_law_laid (by kernel_rfl) (m:=3) (by omega) (qb7 (by kernel_rfl)) (by kernel_rfl) (by kernel_rfl))
theorem Jmx{a b:Int}(ha:(Lit.int .i64 a).wf=true)(hb:(Lit.int .i64 b).wf=true):keyOf Tryz.prog 323 (.agg #[(a:Int),(b:Int)])=some (plit a b):=by
 obtain⟨m,y⟩:∃m,Tryz.prog.types.size=m+2:=by
  have h:1<Tryz.prog.types.size:=qb7 (by kernel_rfl);exact⟨Tryz.prog.types.size - 2,by omega⟩
 have x:Tryz.prog.keyType 323=true:=by kernel_rfl
 have z:Tryz.prog.cellsOf 323=2:=by kernel_rfl
 have c3:Tryz.prog.cellsOf 3=1:=by kernel_rfl
 have w:(Value.agg #[(a:Int),(b:Int)]).formed Tryz.prog 323=true:=by
  simp[Value.formed,Tryz.underlying323,z]
 have v:Tryz.prog.keyLits (Tryz.prog.types.size+1) 323 (Value.agg #[.int .i64 a,.int .i64 b]).cells.toList=some [.int .i64 a,.int .i64 b]:=by
  rw[y];simp[Program.keyLits,Value.cells,Tryz.underlying323,Tryz.underlying3,z,c3,ha,hb]
 unfold keyOf;rw[Tryz.underlying323];simp only[x,w,Bool.and_self,if_true,v,Option.map_some];rfl
theorem Jee{n:Nat}(h:n<100):(Lit.int .i64 (n:Int)).wf=true:=Jcd (by omega)
structure RepP (D:DataW Unit) (f:Nat ->Nat ->Option PRaw):Prop where
 map:IsMap D
 at_:∀t s:Nat,t<100 ->s<100 ->∀z,D.atKey (plit (t:Int) (s:Int)) z=match f t s with | some x=>prD x | none=>z
 has:∀t s:Nat,t<100 ->s<100 ->Maps.has D (plit (t:Int) (s:Int))=(f t s).isSome
theorem RepP.nil:RepP (.map []) (fun _ _=>none):=⟨isMap_empty,fun _ _ _ _ _=>rfl,fun _ _ _ _=>by rw[Maps.has_eq];rfl⟩
def setP (f:Nat ->Nat ->Option PRaw) (t s:Nat) (x:PRaw):Nat ->Nat ->Option PRaw:=fun i j=>if i=t/\j=s then some x else f i j
theorem Jsv{a b c d:Nat}(ha:a<100)(hb:b<100)(hc:c<100)(hd:d<100)(h: ¬ (a=c/\b=d)):plit (a:Int) (b:Int)≠plit (c:Int) (d:Int):=by
 intro e;have:=J4k (Jee ha) (Jee hb) (Jee hc) (Jee hd) e;omega
theorem RepP.put{D:DataW Unit}{f:Nat ->Nat ->Option PRaw}(h:RepP D f)(t s:Nat)(ht:t<100)(hs:s<100)(x:PRaw):RepP (D.put (plit (t:Int) (s:Int)) (prD x)) (setP f t s x):=by
 refine⟨h.map.put _ _,fun i j hi hj z=> ?_,fun i j hi hj=> ?_⟩
 · unfold setP
   by_cases e:i=t/\j=s
   · obtain⟨rfl,rfl⟩:=e
     rw[qa0 ⟨rfl,rfl⟩,atKey_put_same h.map (by simp[plit,WideAt.IsKeyLit])]
   · rw[qay e,atKey_put_other (Jsv hi hj ht hs e)]
     exact h.at_ i j hi hj z
 · unfold setP
   by_cases e:i=t/\j=s
   · obtain⟨rfl,rfl⟩:=e
     rw[qa0 ⟨rfl,rfl⟩,Maps.has_put_same h.map (by simp[plit,WideAt.IsKeyLit])];rfl
   · rw[qay e,Maps.has_put_other (Jsv hi hj ht hs e)]
     exact h.has i j hi hj
structure PMap (w:World) (b n:Nat) (f:Nat ->Nat ->Option PRaw):Prop where
 own:∃D:DataW Unit,w.ownsMap Tryz.prog 323 Jie b n D/\RepP D f
section
variable {w w':World} {b n:Nat} {f:Nat ->Nat ->Option PRaw}
theorem PMap.lt(h:PMap w b n f):b<w.heap.size:=by obtain⟨D,z,_⟩:=h.own;exact z.lt
theorem PMap.keep(h:PMap w b n f)(hb:w'.heap[b]? =w.heap[b]?):PMap w' b n f:=by
 obtain⟨D,⟨es,c,z,y⟩,x⟩:=h.own;exact⟨D,⟨es,c,hb.trans z,y⟩,x⟩
theorem PMap.below(h:PMap w b n f)(hb:Below w.heap.size w w'):PMap w' b n f:=h.keep (hb.block b h.lt)
theorem PMap.chg{G:Nat ->Prop}(h:PMap w b n f)(hc:Chg G w w')(hn: ¬ G b):PMap w' b n f:=h.keep (hc.block b h.lt hn)
theorem PMap.nocells(h:PMap w b n f)(cs:Array Value)(T:TypeId)(fr:Nat×Nat):w.heap[b]? ≠some (.cells cs T fr):=by
 obtain⟨D,⟨es,c,z,_⟩,_⟩:=h.own;rw[z];intro e;cases e
theorem PMap.made(w:World):PMap (w.alloc (.map #[] 0)) w.heap.size 0 (fun _ _=>none):=⟨_,World.ownsMap_made w _ _ _,RepP.nil⟩
def J9x (f:Nat ->Nat ->Option PRaw) (t s:Nat):Value:=match f t s with
 | some x=> .tuple #[x.val,true]
 | none=> .tuple #[PRaw.zero.val,false]
theorem PMap.look(h:PMap w b n f){t s:Nat}(ht:t<100)(hs:s<100):(Instr.lookup 65 (.map (some b)) (.agg #[(t:Int),(s:Int)]) true).run Tryz.prog w= .ok (J9x f t s) w:=by
 obtain⟨D,z,r⟩:=h.own;obtain⟨v,ps,u,q⟩:=z.look_ok Jmw Tryz.underlying65 (J0a w) (Jlh PRaw.zero) (Jmx (Jee ht) (Jee hs));rw[u,r.has t s ht hs];rw[r.at_ t s ht hs] at q;obtain⟨x,rfl,e⟩:=Jqt q;unfold J9x;cases hf:f t s with
 | none=>
   rw[hf] at e;rw[<- Jz9 (Prod.mk.inj e).1];rfl
 | some y=>
   rw[hf] at e;rw[<- Jz9 (Prod.mk.inj e).1];rfl
theorem PMap.store(h:PMap w b n f)(hn:n<1000000){t s:Nat}(ht:t<100)(hs:s<100)(x:PRaw):
  ∃w',(Instr.mapUpdate 65 (.map (some b)) (.agg #[(t:Int),(s:Int)]) x.val).run Tryz.prog w= .ok () w'/\PMap w' b (n+1) (setP f t s x)/\w.grownBy w' (some b):=by
 obtain⟨D,z,v⟩:=h.own;obtain⟨w',y,r1,r2⟩:=z.store Jmw Tryz.underlying65 (by unfold maxLen;omega) (Jmx (Jee ht) (Jee hs)) (Jlh x);exact⟨w',y,⟨_,r1,v.put t s ht hs x⟩,r2.grown⟩
end
structure Pm where
 e:En
 l:List Rc
 A:Option (Nat×Nat)
 c:Nat
 B:Option (Nat×Nat)
 d:Nat
def Pm.raw (x:Pm):PRaw:=⟨(x.e.id:Int),(x.e.tier:Int),(x.e.shard:Int),0,(x.e.bl.length:Int),x.A,x.e.bl.length,x.c,x.B,x.l.length,x.d⟩
def Pm.cells (x:Pm):List Value:=x.raw.cells
def Pm.em (x:Pm):Em:=⟨x.e,adr x.A,x.c⟩
structure PmAt (w:World) (F:Nat ->Prop) (x:Pm):Prop where
 bl:Ints w .i64 (adr x.A) x.e.bl.length x.e.bl
 rc:Rcs w (adr x.B) x.l.length x.l
 inA:AIn F (adr x.A)
 inB:AIn F (adr x.B)
structure Jgy (w:World) (F:Nat ->Prop) (A:Option Addr) (n:Nat) (ps:List Pm):Prop where
 sl:Sl w A (ps.flatMap Pm.cells)
 len:ps.length=n
 row:∀p∈ps,PmAt w F p
 inl:AIn F A
theorem Jqu(x:Pm):x.cells.length=7:=rfl
theorem J0b(l:List Pm)(j:Nat)(hj:j<l.length)(q:Nat)(hq:q<7):(l.flatMap Pm.cells)[j*7+q]? =l[j].cells[q]? :=by
 induction l generalizing j with
 | nil=>simp at hj
 | cons r s ih=>
   rw[qau];cases j with
   | zero=>
     rw[qcf (by rw[Jqu];omega)]
     simp
   | succ j=>
     rw[qb6 (by rw[Jqu];omega),Jqu,show(j+1)*7+q - 7=j*7+q from by omega,ih j (by simpa using hj)];rfl
theorem J0c(l:List Pm):(l.flatMap Pm.cells).length=l.length*7:=by
 induction l with
 | nil=>rfl
 | cons a r ih=>rw[qau,qad,ih,Jqu,qa3];omega
theorem J0d(l:List Pm):∀u∈l.flatMap Pm.cells,u.oneCell'=true:=by
 intro u y;obtain⟨r,_,z⟩:=qcs.1 y;simp[Pm.cells,PRaw.cells] at z;rcases z with rfl | rfl | rfl | rfl | rfl | rfl | rfl<;>rfl
structure J0e (w:World) (b off:Nat) (x:PRaw):Prop where
 c0:w.cell? ⟨b,off,none⟩=some (.int .u64 x.id)
 c1:w.cell? ⟨b,off+1,none⟩=some (.int .i64 x.t)
 c2:w.cell? ⟨b,off+2,none⟩=some (.int .i64 x.s)
 c3:w.cell? ⟨b,off+3,none⟩=some (.int .i64 x.p)
 c4:w.cell? ⟨b,off+4,none⟩=some (.int .i64 x.o)
 c5:w.cell? ⟨b,off+5,none⟩=some (.slice (adr x.A) x.n x.c)
 c6:w.cell? ⟨b,off+6,none⟩=some (.slice (adr x.B) x.k x.d)
section
variable {w w':World} {F G:Nat ->Prop} {A:Option Addr} {n:Nat} {ps:List Pm} {x:Pm}
theorem PmAt.chg(h:PmAt w F x)(hc:Chg G w w')(hd:Dj F G):PmAt w' F x:=⟨h.bl.chg hc (h.inA.dj hd),h.rc.chg hc (h.inB.dj hd),h.inA,h.inB⟩
theorem PmAt.below(h:PmAt w F x)(hb:Below w.heap.size w w'):PmAt w' F x:=⟨h.bl.below hb,h.rc.below hb,h.inA,h.inB⟩
theorem PmAt.sub(h:PmAt w F x)(hs:∀b,F b ->G b):PmAt w G x:=⟨h.bl,h.rc,h.inA.sub hs,h.inB.sub hs⟩
theorem Jgy.chg(h:Jgy w F A n ps)(hc:Chg G w w')(hd:Dj F G):Jgy w' F A n ps:=⟨h.sl.chg hc (h.inl.dj hd),h.len,fun p hp=>(h.row p hp).chg hc hd,h.inl⟩
theorem Jgy.below(h:Jgy w F A n ps)(hb:Below w.heap.size w w'):Jgy w' F A n ps:=⟨h.sl.below hb,h.len,fun p hp=>(h.row p hp).below hb,h.inl⟩
theorem Jgy.sub(h:Jgy w F A n ps)(hs:∀b,F b ->G b):Jgy w G A n ps:=⟨h.sl,h.len,fun p hp=>(h.row p hp).sub hs,h.inl.sub hs⟩
theorem Jgy.get(h:Jgy w F A n ps){j:Nat}(hj:j<ps.length):∃b off,A=some ⟨b,off,none⟩/\b<w.heap.size/\J0e w b (off+j*7) ps[j].raw:=by
 have y:ps.flatMap Pm.cells≠[]:=by
  intro e;have:=J0c ps;rw[e] at this;simp only[qbo] at this;omega
 obtain⟨b,off,e,x,v⟩:=h.sl.at_ y;refine⟨b,off,e,x,?_⟩
 have X:∀q (hq:q<7),w.cell? ⟨b,off+j*7+q,none⟩=ps[j].cells[q]? :=fun q hq=>by
  have z:ps[j].cells[q]? =some (ps[j].cells[q]'(by rw[Jqu];exact hq)):=qah _;rw[z,qcd];exact v (j*7+q) _ (by rw[J0b ps j hj q hq,z])
 exact⟨X 0 (by omega),X 1 (by omega),X 2 (by omega),X 3 (by omega),X 4 (by omega),X 5 (by omega),X 6 (by omega)⟩
end
theorem Jsw{w:World}{B:Nat}{e:TypeId}{k n:Nat}{v:Value}{xs:List Value}(h:w.ownsRow B e k v n xs):∃a c,v= .slice (adr a) n c:=by
 rcases h.2 with⟨rfl,rfl⟩ | ⟨g,cap,cur,rfl,_⟩
 · exact⟨none,0,rfl⟩
 · exact⟨some (g,0),cap,rfl⟩
end Go.Proofs.YtglmhddbhhcjdaaGreatDoor
namespace Go.Proofs.YtglmhddbhhcjdaaGreatDoor
open Go.RowKit
theorem sF:(⟨#[102,114,101,115,104]⟩:ByteArray).data.toList=Led.nF:=rfl
theorem sL:(⟨#[108,105,118,101]⟩:ByteArray).data.toList=Led.nL:=rfl
theorem J79{FB:Nat ->Prop}{g N C B D R gen id mp bk n c:Nat}{d:Addr}{lg:Option Addr}{bad:Int}{us zs:List Int}{b m:Option (List Int)}{A:Option Addr}(w:World)(hX:Bo w g (Jdm N C B D R d gen id mp bk lg bad))(hB:Led.BookAt w FB bk (D:Int) ((N - D:Nat):Int) us (Led.w3 none b m))(hg: ¬ FB g)(hz:Ints w .i64 A n zs)(hA:AIn (fun x=> ¬ FB x) A)(hne:zs≠[])(hnd:zs.Nodup)(hin:∀z∈zs,(D:Int)<=z/\z<(N:Int)/\z∉us)(hDN:D<=N):
  Cs 220 #[g,.string ⟨#[108,105,118,101]⟩,.slice A n c] w fun e w'=>e= .returned (true:Bool)/\(∃F',Led.BookAt w' F' bk (D:Int) ((N - D:Nat):Int) (Led.insAll us zs) (Led.w3 none (some (Led.insAll (b.getD []) zs)) m)/\∀x,F' x ->grow FB w w' x)/\Chg FB w w':=by
 have Ha:=hB.few;have t:=Led.w3_sum none b m;have S:=hB.rising;have P:=hB.rng;have Hn:zs.map (Value.int .i64)≠[]:=by simpa using hne
 obtain⟨zb,zo,rfl,Ku,_⟩:=hz.sl.at_ Hn;have Hb: ¬ FB zb:=hA _ rfl;obtain⟨k,hk⟩:∃k:Nat,(k:Int)=((N - D:Nat):Int) - us.length:=⟨N - D - us.length,by omega⟩
 have Ho:Hid (Cs 290 #[bk] w (RB w (k:Int))):=by
  have X:=Led.open_b w hB;rw[t,Int.sub_zero,<- hk] at X;exact zI X
 have Hp:=zI hB;have Hq:=zI hX;have Hc:=zI hz;have Hr:=zI hin;have Hd:=zI hnd;have He:=zI S;have Hf:=zI P;have HK:=zI hk;have x11:=hX.at_ 11 (v:= bk) rfl;have Hs:=zI t;have Y:=zI Ha;clear hB hX hz hin hnd P S t hk Ha;go_enter Tryz.func220,Tryz.ntmps220;go_wp2_with fail
 refine Ho.out.mono ?_;rintro e w1 ⟨rfl,u⟩;have Ht:=zI (Hp.out.below u);have L:=zI (Hq.out.below u);have Hu:=zI (Hc.out.below u);have Hv:=zI (Chg.of_below (F:=FB) u);have Kv:=u.size
 have Hw:Hid (Cs 291 #[bk,.string ⟨#[102,114,101,115,104]⟩,(k:Int)] w1 fun e w'=>e= .returned (0:Int)/\Led.BookAt w' (grow FB w1 w') bk (D:Int) ((N - D:Nat):Int) us (Led.w4 (k:Int) none b m)/\Chg FB w1 w'):=by
  have X:=Led.reserve_b ⟨#[102,114,101,115,104]⟩ (k:Int) w1 Ht.out (by decide) ⟨by omega,by rw[Hs.out];have:=HK.out;omega⟩ (by have:=Led.w3_len none b m;omega);rw[sF,Led.res4] at X;exact zI X
 have y11:=L.out.at_ 11 (v:= bk) rfl;clear x11 u;go_wp2_with fail
 refine Hw.out.mono ?_;rintro e w2 ⟨rfl,W,s⟩;have Hx:=zI (Hv.out.trans s (fun _ h=> .inl h));have Hg:=zI (L.out.chg s hg);have Hy:=zI (Hu.out.chg s (fun a e=>by cases e;exact Hb));obtain⟨F2,p⟩:=exE (grow FB w1 w2);have o:=zI p;rw[<- p] at W;have Hz:=zI W.ins;have K: ¬ F2 g:=by rw[p];rintro(h | h);exact hg h;exact absurd h.1 (by have:=L.out.lt;omega)
 have H0: ¬ F2 zb:=by rw[p];rintro(h | h);exact Hb h;exact absurd h.1 (by omega)
 have Kw:w1.heap.size<=w2.heap.size:=s.size
 have H9:Hid (Cs 292 #[bk,.string ⟨#[102,114,101,115,104]⟩,(k:Int)] w2 fun e w'=>∃r O,e= .returned (.tuple #[r,(0:Int)])/\O=(Led.freeIn (D:Int) us ((N - D:Nat):Int).toNat).take (k:Int).toNat/\w'.ownsRow w2.heap.size 3 1 r O.length (O.map (Value.int .i64))/\Led.DrawLaw (D:Int) ((N - D:Nat):Int) us (k:Int) O/\Led.BookAt w' F2 bk (D:Int) ((N - D:Nat):Int) (Led.insAll us O) (Led.w3 (some (Led.insAll [] O)) b m)/\Chg F2 w2 w'):=by
  have X:=Led.draw_b ⟨#[102,114,101,115,104]⟩ (k:Int) w2 W (by decide) (by omega) (Led.find4 (k:Int) none b m) (Int.le_refl _);rw[sF] at X;refine zI (X.mono ?_);rintro e w' ⟨r,O,J,M,h3,h4,h5,h6⟩;rw[Led.draw4] at h5;exact⟨r,O,J,M,h3,h4,h5,h6⟩
 have z11:=Hg.out.at_ 11 (v:= bk) rfl;clear y11 W p s;go_wp2_with fail
 refine H9.out.mono ?_;rintro e w3 ⟨r,O,rfl,hO,y,l,I,j⟩;have Hh:Led.Rising O:=by rw[hO];exact(List.Pairwise.sublist (List.take_sublist _ _) (Led.rising_freeIn _ _ _))
 rw[Led.insAll_self Hh] at I;obtain⟨Ar,cr,rfl,i⟩:=Led.own_ints y (fun z hz=>by have:=l.fresh z hz;have:=Y.out;exact Led.wf_i64 (by omega)) (by have:=l.len;have:=Y.out;have:=HK.out;unfold maxLen;omega);have Ka:=zI (fun O2 (J:∀z∈zs,z∈O) (M:O2=(Led.outAll (Led.lessU O zs) O).2)=>Led.take_used (f:=(D:Int)) (n:=((N - D:Nat):Int)) (us:=us) (out:=O) (O:=zs) (O2:=O2) (by omega) He.out Hf.out (by rw[hO,HK.out]) J M)
 have V:∀z∈zs,z∈O:=fun z hz=>by
  have hl:=Led.freeIn_len (f:=(D:Int)) (us:=us) (n:=((N - D:Nat):Int).toNat) He.out (fun z hz=>by have:=Hf.out z hz;omega);rw[hO,qap (by have:=HK.out;omega),Led.mem_freeIn];obtain⟨q1,q2,q3⟩:=Hr.out z hz;exact⟨q1,by omega,q3⟩
 have Kb:=zI V;have Kc:∀x,(Value.slice Ar O.length cr).ownBlock=some x ->w2.heap.size<=x:=fun x e=>(y.lt x e).1;have H:=zI (Hg.out.chg j K);have Hi:=zI (Hy.out.chg j (fun a e=>by cases e;exact H0));have Kd:=zI (Hx.out.trans j (fun x h=>by rw[o.out] at h;exact h.imp (fun h=>h) fun h=>by have:=h.1;omega));have Kx:w2.heap.size<=w3.heap.size:=j.size
 have Hj:AIn (fun x=> ¬ F2 x/\x<w3.heap.size) Ar:=fun a e=>by
  subst e;have:=y.lt a.block rfl;exact⟨fun h=>by have:=Hz.out _ h;omega,this.2⟩
 have Ke:=zI Hj;have Kf:=zI i
 have Kg:Hid (Cs 293 #[bk,.string ⟨#[102,114,101,115,104]⟩,.string ⟨#[108,105,118,101]⟩,.slice (some ⟨zb,zo,none⟩) n c] w3 fun e w'=>e= .returned (zs.length:Int)/\Led.BookAt w' (grow F2 w3 w') bk (D:Int) ((N - D:Nat):Int) (Led.insAll us O) (Led.w3 (some (Led.lessU O zs)) (some (Led.insAll (b.getD []) zs)) m)/\Chg F2 w3 w'):=by
  have X:=Led.move_b ⟨#[102,114,101,115,104]⟩ ⟨#[108,105,118,101]⟩ (some ⟨zb,zo,none⟩) n c zs w3 I (by decide) (by decide) Hi.out (by have:=Hi.out.len;have:=l.len;have h3:=Led.nodup_le Hd.out V;have:=Y.out;have:=HK.out;omega) (by have:=Led.w3_len (some O) b m;omega);rw[sF,sL,Led.hF3,show(some O).getD []=O from rfl,Led.outAll_all Hd.out V,Led.move_L zs O b m hne] at X;exact zI X
 have Kh:=zI (show O.length<=4096 from by have:=l.len;have:=Y.out;have:=HK.out;omega);have z11':=H.out.at_ 11 (v:= bk) rfl;clear z11 I j hO y i l Hh V Kc Hj;go_wp2_with fail
 refine Kg.out.mono ?_;rintro e w4 ⟨rfl,G,Z⟩;obtain⟨F4,U⟩:=exE (grow F2 w3 w4);have E:=zI U;rw[<- U] at G;have Ki: ¬ F4 g:=by rw[U];rintro(h | h);exact K h;exact absurd h.1 (by have:=H.out.lt;omega)
 have Hk:=zI (H.out.chg Z K);have Kj:=zI (Kf.out.chg Z (fun a e=>(Ke.out a e).1));have Ky:w3.heap.size<=w4.heap.size:=Z.size;have Kk:=zI (Kd.out.trans Z (fun x h=>by rw[o.out] at h;exact h.imp (fun h=>h) fun h=>by have:=h.1;omega))
 have Kl:Hid (Cs 294 #[bk,.string ⟨#[102,114,101,115,104]⟩,.slice Ar O.length cr] w4 fun e w'=>∃O2,e= .returned (O2.length:Int)/\O2=(Led.outAll (Led.lessU O zs) O).2/\Led.BookAt w' F4 bk (D:Int) ((N - D:Nat):Int) (Led.lessU (Led.insAll us O) O2) (Led.w4 O2.length (some (Led.lessU (Led.lessU O zs) O2)) (some (Led.insAll (b.getD []) zs)) m)/\Chg F4 w4 w'):=by
  have X:=Led.return_b ⟨#[102,114,101,115,104]⟩ Ar O.length cr O w4 G (by decide) Kj.out (by have:=Kh.out;omega);rw[sF,Led.hF3,show(some (Led.lessU O zs)).getD []=Led.lessU O zs from rfl] at X;refine zI (X.mono ?_);rintro e w' ⟨J,M,h3⟩;rw[Led.ret3] at M;exact⟨_,J,rfl,M,h3⟩
 have y11:=Hk.out.at_ 11 (v:= bk) rfl;clear z11' G U Z;go_wp2_with fail
 refine Kl.out.mono ?_;rintro e w5 ⟨O2,rfl,Km,Hl,T⟩;have Kn:=zI (Hk.out.chg T Ki)
 have Ko:=zI (Kk.out.trans T (fun x h=>by
  rw[E.out] at h;rcases h with h | h
  · rw[o.out] at h;exact h.imp (fun h=>h) fun h=>by have:=h.1;omega
  · exact .inr (by have:=h.1;omega)))
 have Kp:=zI (Ka.out O2 Kb.out Km);have Kz:w4.heap.size<=w5.heap.size:=T.size
 have Kq:Hid (Cs 295 #[bk,.string ⟨#[102,114,101,115,104]⟩] w5 fun e w'=>(∃q,e= .returned (q:Int))/\Led.BookAt w' F4 bk (D:Int) ((N - D:Nat):Int) (Led.insAll us zs) (Led.w3 none (some (Led.insAll (b.getD []) zs)) m)/\Chg F4 w5 w'):=by
  have X:=Led.close_b ⟨#[102,114,101,115,104]⟩ w5 Hl (by decide);rw[sF,Led.held4,Led.close4,show(some (Led.lessU (Led.lessU O zs) O2)).getD []=Led.lessU (Led.lessU O zs) O2 from rfl,Kp.out.1] at X;refine zI (X.mono ?_);rintro e w' ⟨J,M,h3⟩;exact⟨⟨_,J⟩,M,h3⟩
 have x11:=Kn.out.at_ 11 (v:= bk) rfl;clear y11 Hl T;go_wp2_with fail
 refine Kq.out.mono ?_;rintro e w6 ⟨⟨q,rfl⟩,Hm,hJ⟩;have hE:((zs.length:Int)==(n:Int))=true:=by rw[Hc.out.len];simp
 have Kr:=zI Hm
 have Ks:=zI (Ko.out.trans hJ (fun x h=>by
  rw[E.out] at h;rcases h with h | h
  · rw[o.out] at h;exact h.imp (fun h=>h) fun h=>by have:=h.1;omega
  · exact .inr (by have:=h.1;omega)))
 have Kt:=zI (show ∀x,F4 x ->grow FB w w6 x from fun x h=>by
  have h6:=hJ.size;rw[E.out] at h;rcases h with h | h
  · rw[o.out] at h
    exact h.imp (fun h=>h) fun h=>⟨by have:=h.1;omega,by have:=h.2;omega⟩
  · exact .inr ⟨by have:=h.1;omega,by have:=h.2;omega⟩)
 clear Hm hJ x11;go_wp2_with fail
 go_ret;exact⟨rfl,⟨F4,Kr.out,Kt.out⟩,Ks.out⟩
