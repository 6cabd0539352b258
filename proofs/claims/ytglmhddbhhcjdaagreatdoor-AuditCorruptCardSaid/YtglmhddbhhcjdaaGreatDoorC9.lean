/- Laws that the walk of the last text wants. -/
import Derived.Test.YtglmhddbhhcjdaaGreatDoorC7
import Derived.Test.YtglmhddbhhcjdaaGreatDoorC8
set_option maxRecDepth 100000
set_option linter.unusedSimpArgs false
set_option maxHeartbeats 4000000
namespace Go.Proofs.YtglmhddbhhcjdaaGreatDoor
open Go.RowKit Go.Maps
structure Rcs (w:World) (A:Option Addr) (n:Nat) (l:List Rc):Prop where
 sl:Sl w A (l.flatMap Rc.cells)
 len:l.length=n
 n_le:n<=maxLen
 nm:∀r∈l,r.nm.size<=maxLen
 st:∀r∈l,(Lit.int .i64 r.st).wf=true
 ok:∀r∈l,r.ag.Ok
theorem Jx9(l:List Rc)(j:Nat)(hj:j<l.length)(q:Nat)(hq:q<7):(l.flatMap Rc.cells)[j*7+q]? =l[j].cells[q]? :=by
 induction l generalizing j with
 | nil=>simp at hj
 | cons a r ih=>
   rw[qau];cases j with
   | zero=>
     rw[qcf (by show 0*7+q<7;omega)];simp
   | succ j=>
     rw[qb6 (by show 7<=_;omega)];have:(j+1)*7+q - a.cells.length=j*7+q:=by show(j+1)*7+q - 7=_;omega
     rw[this,ih j (by simp at hj;omega)];rfl
structure Jbv (w:World) (b off:Nat) (r:Rc):Prop where
 c0:w.cell? ⟨b,off,none⟩=some (.string r.nm)
 c1:w.cell? ⟨b,off+1,none⟩=some (.int .i64 r.st)
 c2:w.cell? ⟨b,off+2,none⟩=some (.int .i64 r.ag.c)
 c3:w.cell? ⟨b,off+3,none⟩=some (.int .i64 r.ag.hi)
 c4:w.cell? ⟨b,off+4,none⟩=some (.int .u64 r.ag.lo)
 c5:w.cell? ⟨b,off+5,none⟩=some (.int .i64 r.ag.mn)
 c6:w.cell? ⟨b,off+6,none⟩=some (.int .i64 r.ag.mx)
theorem Rcs.get{w:World}{A:Option Addr}{n:Nat}{l:List Rc}(h:Rcs w A n l){j:Nat}(hj:j<l.length):∃b off,A=some ⟨b,off,none⟩/\b<w.heap.size/\Jbv w b (off+j*7) l[j]:=by
 have y:l.flatMap Rc.cells≠[]:=by
  cases l with
  | nil=>simp at hj
  | cons a r=>simp[Rc.cells]
 obtain⟨b,off,e,x,z⟩:=h.sl.at_ y;have g:=fun q hq=>Jx9 l j hj q hq;have c0:=z (j*7+0) _ (g 0 (by omega));have c1:=z (j*7+1) _ (g 1 (by omega));have c2:=z (j*7+2) _ (g 2 (by omega));have c3:=z (j*7+3) _ (g 3 (by omega));have c4:=z (j*7+4) _ (g 4 (by omega));have c5:=z (j*7+5) _ (g 5 (by omega));have c6:=z (j*7+6) _ (g 6 (by omega));rw[<- qcd] at c1 c2 c3 c4 c5 c6;exact⟨b,off,e,x,c0,c1,c2,c3,c4,c5,c6⟩
theorem Jbv.keep{w w':World}{b off:Nat}{r:Rc}{row:Option Nat}(h:Jbv w b off r)(hg:w.grownBy w' row)(hne:some b≠row):Jbv w' b off r:=
 ⟨hg.cell h.c0 hne,hg.cell h.c1 hne,hg.cell h.c2 hne,hg.cell h.c3 hne,hg.cell h.c4 hne,hg.cell h.c5 hne,hg.cell h.c6 hne⟩
theorem Jbv.new(w:World)(r:Rc):Jbv (w.alloc (.cells #[r.nm,(r.st:Int),(r.ag.c:Int),(r.ag.hi:Int),.int .u64 r.ag.lo,(r.ag.mn:Int),(r.ag.mx:Int)] 142)) w.heap.size 0 r:=by
 have e:=qci w (.cells #[r.nm,(r.st:Int),(r.ag.c:Int),(r.ag.hi:Int),.int .u64 r.ag.lo,(r.ag.mn:Int),(r.ag.mx:Int)] 142);exact⟨qb4 _ _ 0 _ _ _ e,qb4 _ _ 1 _ _ _ e,qb4 _ _ 2 _ _ _ e,qb4 _ _ 3 _ _ _ e,qb4 _ _ 4 _ _ _ e,qb4 _ _ 5 _ _ _ e,qb4 _ _ 6 _ _ _ e⟩
theorem MapAt.nocell{w:World}{mm:Nat}{l:List Rc}(h:MapAt w mm l)(o:Nat):w.cell? ⟨mm,o,none⟩=none:=by
 obtain⟨D,⟨es,c,z,_⟩,_⟩:=h.own;simp[World.cell?,z]
theorem Rcs.keep{w w':World}{A:Option Addr}{n mm:Nat}{l k:List Rc}(h:Rcs w A n l)(hm:MapAt w mm k)(hg:w.grownBy w' (some mm)):Rcs w' A n l:=by
 refine⟨⟨fun hne=> ?_⟩,h.len,h.n_le,h.nm,h.st,h.ok⟩;obtain⟨b,off,e,x,y⟩:=h.sl.at_ hne
 have z:b≠mm:=by
  intro e2;subst e2;cases hx:l.flatMap Rc.cells with
  | nil=>exact hne hx
  | cons u r=>
    have:=y 0 u (by rw[hx];rfl);rw[hm.nocell] at this;cases this
 exact⟨b,off,e,qar x hg.size,fun j u hu=>hg.cell (y j u hu) (fun e3=>z (by injection e3))⟩
def agAt (l:List Rc) (s:ByteArray) (n:Int):Ag:=match Jiq l s n with | some r=>r.ag | none=>Ag.zero
open Classical in
noncomputable def addR (ev:Int) (l:List Rc) (r:Rc):List Rc:=if Jau ev r=true then putR ⟨r.nm,r.st,Jbf [agAt l r.nm r.st,r.ag]⟩ l else l
noncomputable def addL (ev:Int) (l:List Rc) (rs:List Rc):List Rc:=rs.foldl (addR ev) l
def addN (ev:Int) (rs:List Rc):Nat:=rs.countP (Jau ev)
theorem Jpk(ev:Int)(l rs:List Rc)(r:Rc):addL ev l (rs++[r])=addR ev (addL ev l rs) r:=by simp[addL,qb8]
theorem Jya(ev:Int)(rs:List Rc)(r:Rc):addN ev (rs++[r])=addN ev rs+if Jau ev r=true then 1 else 0:=by
 unfold addN;rw[List.countP_append,List.countP_singleton]
theorem Jty{x:Rc}:∀ {l:List Rc},(putR x l).length<=l.length+1
 | []=>by simp[putR]
 | y ::r=>by
   unfold putR;split
   · simp
   · split
     · simp
     · have:=Jty (x:=x) (l:=r)
       simp;omega
theorem J3d{ev:Int}{l:List Rc}{r:Rc}:(addR ev l r).length<=l.length+1:=by
 unfold addR;split
 · exact Jty
 · omega
theorem Jjr{ev:Int}{l:List Rc}:∀ {rs:List Rc},(addL ev l rs).length<=l.length+rs.length:=by
 intro rs;obtain⟨m,rfl⟩:∃m:List Rc,rs=m.reverse:=⟨rs.reverse,by simp⟩
 induction m with
 | nil=>simp[addL]
 | cons a r ih=>
   rw[qby,Jpk];have:=J3d (ev:=ev) (l:=addL ev l r.reverse) (r:=a);simp at ih ⊢;omega
theorem MapAt.look{w:World}{mm:Nat}{l:List Rc}(h:MapAt w mm l){s:ByteArray}{n:Int}(hs:s.size<=maxLen)(hn:(Lit.int .i64 n).wf=true):
  (Instr.lookup 255 (.map (some mm)) (Jcp s n) false).run Tryz.prog w= .ok (agAt l s n).val w:=by
 obtain⟨D,z,y⟩:=h.own;obtain⟨v,ps,x,u⟩:=z.lookup Jbq Tryz.underlying255 (J6x w) (Jo6 Ag.zero) (Jo5 hs hn);rw[x];rw[y.at_ hs hn] at u;obtain⟨a,rfl,e⟩:=Jip u;unfold agAt;cases hf:Jiq l s n with
 | none=>
   rw[hf] at e;rw[<- Jrx (Prod.mk.inj e).1]
 | some r=>
   rw[hf] at e;rw[<- Jrx (Prod.mk.inj e).1]
theorem MapAt.fit{w:World}{mm:Nat}{l:List Rc}(h:MapAt w mm l)(s:ByteArray)(n:Int):(agAt l s n).Fit:=by
 obtain⟨D,y,z⟩:=h.own;unfold agAt;cases hf:Jiq l s n with
 | none=>exact Ag.Fit.zero
 | some r=>exact(z.ok r (Jek hf).1).ag
theorem MapAt.store{w:World}{mm:Nat}{l:List Rc}(h:MapAt w mm l){x:Rc}(hx:x.Ok)(hl:l.length<1000000):
  ∃w',(Instr.mapUpdate 255 (.map (some mm)) (Jcp x.nm x.st) x.ag.val).run Tryz.prog w= .ok () w'/\MapAt w' mm (putR x l)/\w.grownBy w' (some mm):=by
 obtain⟨D,z,y⟩:=h.own;obtain⟨w',v,r1,r2⟩:=z.store Jbq Tryz.underlying255 (by unfold maxLen;omega) (Jo5 hx.nm hx.st) (Jo6 x.ag);exact⟨w',v,MapAt.mk' r1 (y.put hx),r2.grown⟩
open Go.Shelf Go.Sort
instance:Inhabited Rc:=⟨⟨default,0,Ag.zero⟩⟩
def Jv2 (r s:Rc):Int:=cmpR r.nm.toList r.st s.nm.toList s.st
theorem Jnx(r s:Rc):ltOf Jv2 r s=Jdu r.nm.toList r.st s.nm.toList s.st:=rfl
theorem J9j:SWO (ltOf Jv2) where
 irrefl x:=by rw[Jnx];exact Jnj _ _
 trans x y z h1 h2:=by rw[Jnx] at*;exact Jjb h1 h2
 ntrans x y z h1 h2:=by
  rw[Jnx] at*;cases h3:Jdu x.nm.toList x.st z.nm.toList z.st
  · rfl
  · cases h4:Jdu z.nm.toList z.st y.nm.toList y.st
    · cases h5:Jdu y.nm.toList y.st z.nm.toList z.st
      · obtain⟨e1,e2⟩:=Jo2 h4 h5
        rw[e1,e2,h1] at h3;cases h3
      · rw[h2] at h5;cases h5
    · have:=Jjb h3 h4
      rw[h1] at this;cases this
theorem J3e(blk off size:Nat)(w:World):CmpLays Tryz.prog 242 #[] Rc.cells 7 Jv2 blk off size w:=fun _ _ _ _ x y=>
 (Jnq x.nm y.nm x.st y.st _ _ _ _ _ _ _ _ _ _ _).mono fun _ _ ⟨h1,h2⟩=>⟨h1,h2⟩
theorem Jpl(x:Rc):∀v∈x.cells,v.oneCell'=true:=by
 intro v z;simp[Rc.cells,Ag.cells] at z;rcases z with rfl | rfl | rfl | rfl | rfl | rfl | rfl<;>rfl
theorem J3f(blk off cap:Nat)(d:Array Rc)(w:World)(hH:HoldsK Rc.cells 7 w blk off d)(hblk:blk<w.heap.size)(hsz:d.size<4611686018427387904):
  Cs 241 #[.slice (some ⟨blk,off,none⟩) d.size cap,.func (.func 242) #[] #[]] w fun e w'=>e= .returned (.tuple #[])/\∃d' n os,PermIn 0 d.size d d'/\SortedIn (ltOf Jv2) 0 d.size d'/\w'=sortWorldK Rc.cells 7 w blk off n d' os:=
 AnyQ.slices_SortFunc Tryz.sortR 7 Tryz.isAgg142 Tryz.sizeOf142 Rc.cells (fun _=>rfl) Jpl Jv2 J9j 242 #[] blk off cap d w (enters_of Tryz.func242 (by kernel_rfl) rfl) (J3e blk off d.size w) hH hblk hsz
end Go.Proofs.YtglmhddbhhcjdaaGreatDoor
namespace Go.Proofs.YtglmhddbhhcjdaaGreatDoor
open Go.RowKit Go.Maps
end Go.Proofs.YtglmhddbhhcjdaaGreatDoor
namespace Go.Proofs.YtglmhddbhhcjdaaGreatDoor
open Go.RowKit
def made (w w':World) (b:Nat):Prop:=w.heap.size<=b/\b<w'.heap.size
def grow (F:Nat ->Prop) (w w':World) (b:Nat):Prop:=F b\/made w w' b
def Dj (F G:Nat ->Prop):Prop:=∀b,F b -> ¬ G b
def Ins (F:Nat ->Prop) (w:World):Prop:=∀b,F b ->b<w.heap.size
section
variable {F G H:Nat ->Prop} {w w1 w':World}
theorem Dj.symm(h:Dj F G):Dj G F:=fun b hg hf=>h b hf hg
theorem Ins.made:Ins (made w w') w':=fun _ h=>h.2
theorem Ins.up(h:Ins F w)(hs:w.heap.size<=w'.heap.size):Ins F w':=fun b hb=>qar (h b hb) hs
theorem Ins.grow(h:Ins F w)(hs:w.heap.size<=w'.heap.size):Ins (grow F w w') w':=fun b hb=>hb.elim (h.up hs b) (fun x=>x.2)
theorem Jc5{b:Nat}(h:made w1 w' b)(hs:w.heap.size<=w1.heap.size):made w w' b:=⟨qax hs h.1,h.2⟩
theorem Jr8{b:Nat}(h:made w w1 b)(hs:w1.heap.size<=w'.heap.size):made w w' b:=⟨h.1,qar h.2 hs⟩
theorem Jks{b:Nat}(h:grow F w1 w' b)(hs:w.heap.size<=w1.heap.size):grow F w w' b:=h.imp id fun x=>Jc5 x hs
theorem Jcj{b:Nat}(h:grow F w w1 b)(hs:w1.heap.size<=w'.heap.size):grow F w w' b:=h.imp id fun x=>Jr8 x hs
theorem Chg.seq(h:Chg F w w1)(k:Chg (Go.Proofs.YtglmhddbhhcjdaaGreatDoor.grow F w w1) w1 w'):Chg F w w':=h.trans k fun _ hb=>hb.imp id fun x=>x.1
theorem Chg.sub(h:Chg F w w')(hs:∀b,F b ->G b):Chg G w w':=h.mono fun b _=>hs b
theorem Chg.made(h:Below w.heap.size w w1)(k:Chg (Go.Proofs.YtglmhddbhhcjdaaGreatDoor.made w w1) w1 w'):Below w.heap.size w w':=(Chg.after_below (F:=fun _=>False) h k fun _ hb=> .inr hb.1).none
theorem Chg.madeF(h:Below w.heap.size w w1)(k:Chg F w1 w')(hF:∀b,F b ->w.heap.size<=b):Below w.heap.size w w':=(Chg.after_below (F:=fun _=>False) h k fun b hb=> .inr (hF b hb)).none
end
theorem grow_grow(F:Nat ->Prop){w0 w1 w2:World}(h1:w0.heap.size<=w1.heap.size)(h2:w1.heap.size<=w2.heap.size):grow (grow F w0 w1) w1 w2=grow F w0 w2:=by
 funext b
 apply propext;unfold grow made;constructor
 · rintro((h | h) | h)
   · exact .inl h
   · exact .inr (by omega)
   · exact .inr (by omega)
 · rintro(h | h)
   · exact .inl (.inl h)
   · rcases Nat.lt_or_ge b w1.heap.size with x | x
     · exact .inl (.inr (by omega))
     · exact .inr (by omega)
section
variable {F G:Nat ->Prop} {w w':World} {A:Option Addr} {n:Nat}
def AIn (F:Nat ->Prop) (A:Option Addr):Prop:=∀a,A=some a ->F a.block
theorem AIn.sub(h:AIn F A)(hs:∀b,F b ->G b):AIn G A:=fun a e=>hs _ (h a e)
theorem Jck{e:TypeId}{k c:Nat}{xs:List Value}(h:w'.ownsRow w.heap.size e k (.slice A n c) n xs):AIn (made w w') A:=by
 intro a e1;subst e1;exact h.lt _ rfl
theorem Sl.chg{xs:List Value}(h:Sl w A xs)(hc:Chg G w w')(hn:AIn (fun b=> ¬ G b) A):Sl w' A xs:=by
 refine⟨fun hne=> ?_⟩;obtain⟨b,off,rfl,y,x⟩:=h.at_ hne;have z: ¬ G b:=hn _ rfl;exact⟨b,off,rfl,qar y hc.size,fun j u hu=>(hc.cell (p:=⟨b,off+j,none⟩) y z).trans (x j u hu)⟩
theorem Ints.chg{k:IntKind}{zs:List Int}(h:Ints w k A n zs)(hc:Chg G w w')(hn:AIn (fun b=> ¬ G b) A):Ints w' k A n zs:=⟨h.sl.chg hc hn,h.len,h.n_le,h.wf⟩
theorem Tis.chg{l:List Ti}(h:Tis w A n l)(hc:Chg G w w')(hn:AIn (fun b=> ¬ G b) A):Tis w' A n l:=⟨h.sl.chg hc hn,h.len,h.n_le,h.ok⟩
theorem Rcs.chg{l:List Rc}(h:Rcs w A n l)(hc:Chg G w w')(hn:AIn (fun b=> ¬ G b) A):Rcs w' A n l:=⟨h.sl.chg hc hn,h.len,h.n_le,h.nm,h.st,h.ok⟩
theorem Rcs.below{l:List Rc}(h:Rcs w A n l)(hb:Below w.heap.size w w'):Rcs w' A n l:=⟨h.sl.below hb,h.len,h.n_le,h.nm,h.st,h.ok⟩
theorem AIn.dj(h:AIn F A)(hd:Dj F G):AIn (fun b=> ¬ G b) A:=fun a e=>hd _ (h a e)
theorem MapAt.chg{mm:Nat}{l:List Rc}(h:MapAt w mm l)(hc:Chg G w w')(hn: ¬ G mm):MapAt w' mm l:=by
 obtain⟨D,⟨es,c,z,y⟩,x⟩:=h.own;exact⟨D,⟨es,c,(hc.block _ h.lt hn).trans z,y⟩,x⟩
theorem Jan.chg{g mm:Nat}{ev:Int}{l:List Rc}(h:Jan w g mm ev l)(hc:Chg G w w')(h1: ¬ G g)(h2: ¬ G mm):Jan w' g mm ev l:=⟨(hc.block g h.lt h1).trans h.blk,h.map.chg hc h2⟩
end
open Go.ChangeAt Go.ChangeShapes Go.Deep Go.WideShapes
theorem J3g{n:Nat}{i:Int}(h:isB n i=true):∃k:Nat,i=k/\k<n:=by
 unfold isB at h;rw[decide_eq_true_iff] at h;exact⟨i.toNat,by omega,by omega⟩
theorem Jyb(A:Option Addr)(n c:Nat)(B:Option Addr)(m d:Nat)(r:Rch)(i t:Int)(w:World)(h:Jem w A n B m r)(hn:n<=1000000)(ht: -9223372036854775808<=t/\t<=9223372036854775807):
  Cs 123 #[rchV r.now r.nm A n c B m d,(i:Int),(t:Int)] w (RB w (.tuple #[(r.start i t:Int),(r.has i t)])):=by
 have y:Below w.heap.size w (w.alloc (.cells #[(r.now:Int),r.nm,.slice A n c,.slice B m d] 161)):=(qaa _ w).alloc (qab _) _;have b0:=Bx.new w 161 #[(r.now:Int),r.nm,.slice A n c,.slice B m d];cases hi:isB n i
 · have j:=zI hi
   have u:=zI (show r.start i t=0/\r.has i t=false from by unfold Rch.start Rch.has;rw[h.ts.len,hi];simp);clear hi h b0;go_enter Tryz.func123,Tryz.ntmps123;go_wp2_with fail
   refine(Jiu _ _ _ _ _ _ _ _ i _).mono ?_;rw[j.out];rintro e w1 ⟨rfl,q⟩;go_wp2;go_ret2;exact⟨by rw[u.out.1,u.out.2];rfl,y.trans (q.mono y.size)⟩
 · obtain⟨k,rfl,V⟩:=J3g hi
   have j:=zI hi;by_cases o:0<=t
   · have K:k<r.ts.length:=by rw[h.ts.len];exact V
     have s:=h.ts.len
     have U:=zI (show r.start (k:Int) t=flrE t (r.ts[k]'K).ev from by
      unfold Rch.start;rw[s,hi,qa0 ⟨rfl,o⟩,qc3,qah K];rfl)
     have S:=zI (show r.has (k:Int) t=decide (r.from_ k<=r.start (k:Int) t) from by
      unfold Rch.has Rch.fromI;rw[s,hi,qa0 rfl,qc3];simp[o])
     have P:decide (t<0)=false:=qae (by omega);have g:=zI (fun W (hW:Jem W A n B m r)=>Jg8 A n c B m d r k W hW hn V);have l:=zI h;have f:=(h.ts.ok _ (qan K)).ev;clear hi h;go_enter Tryz.func123,Tryz.ntmps123;go_wp2_with fail
     refine(Jiu _ _ _ _ _ _ _ _ (k:Int) _).mono ?_;rw[j.out];rintro e w1 ⟨rfl,q⟩;have p:=b0.below q;have v:=y.trans (q.mono y.size);have q0:=p.at_ 0 rfl;have q1:=p.at_ 1 rfl;have q2:=p.at_ 2 rfl;have q3:=p.at_ 3 rfl;obtain⟨b,off,rfl,R,X⟩:=(l.out.ts.below v).get K;have x1:=X.c1;have a:=zI (l.out.below v);clear q y b0 X p;generalize (r.ts[k]'K)=x at*;have g0:(0:Int)<=(k:Int):=(by omega);have g1:(k:Int)<(n:Int):=(by omega);obtain⟨z,Z⟩:∃z,flrE t x.ev=z:=⟨_,rfl⟩;have u:=fun W=>Jvx t x.ev W ⟨o,ht.2⟩ f;rw[Z] at u U;have O:=zI Z;clear Z;go_wp2_with fail
     refine(u _).mono ?_;rintro e w2 ⟨rfl,rfl⟩;go_wp2_with fail
     refine(g.out _ a.out).mono ?_;rintro e w3 ⟨rfl,Y⟩;go_wp2;go_ret2;exact⟨by rw[S.out,U.out];rfl,v.trans (Y.mono v.size)⟩
   · have u:=zI (show r.start (k:Int) t=0/\r.has (k:Int) t=false from by unfold Rch.start Rch.has;rw[qay (fun e=>o e.2),qae o];simp)
     have T:t<0:=(by omega);clear hi h b0;go_enter Tryz.func123,Tryz.ntmps123;go_wp2_with fail
     refine(Jiu _ _ _ _ _ _ _ _ (k:Int) _).mono ?_;rw[j.out];rintro e w1 ⟨rfl,q⟩;go_wp2;go_ret2;exact⟨by rw[u.out.1,u.out.2];rfl,y.trans (q.mono y.size)⟩
def Rch.cover (r:Rch) (f:Int):Int:=match (List.range r.ts.length).find? (fun i=>decide (r.from_ i<=f)) with | some i=>i | none=>r.ts.length - 1
theorem J3h{r:Rch}{f:Int}{j:Nat}(hj:j<r.ts.length)(h:r.from_ j<=f)(ha:∀i,i<j -> ¬ r.from_ i<=f):r.cover f=j:=by
 have e:(List.range r.ts.length).find? (fun i=>decide (r.from_ i<=f))=some j:=by
  rw[List.find?_range_eq_some];exact⟨qaj h,qce.2 hj,fun i hi=>by simpa using ha i hi⟩
 unfold Rch.cover;rw[e]
theorem J3i{r:Rch}{f:Int}(ha:∀i,i<r.ts.length -> ¬ r.from_ i<=f):r.cover f=r.ts.length - 1:=by
 have e:(List.range r.ts.length).find? (fun i=>decide (r.from_ i<=f))=none:=by
  rw[List.find?_eq_none];intro i z
  simpa using ha i (qce.1 z)
 unfold Rch.cover;rw[e]
theorem Jkt(now:Int)(nm:ByteArray)(A:Option Addr)(n c:Nat)(ts:List Ti)(B:Option Addr)(m d:Nat)(fs:List Int)(w:World)(hA:Tis w A n ts)(hB:Ints w .i64 B m fs)(hn:n<=1000000)(hm:m<=1000000)(hnow: -9223372036854775808<=now/\now<=9223372036854775807):
  Cs 97 #[polV nm A n c,(now:Int),.slice B m d] w fun e w'=>∃A' c' B' d',e= .returned (rchV now nm A' n c' B' m d')/\Jem w' A' n B' m ⟨now,nm,ts,fs⟩/\w'.ownsRow w.heap.size 167 4 (.slice A' n c') n (ts.flatMap Ti.cells)/\w'.ownsRow w.heap.size 3 1 (.slice B' m d') m (fs.map (Value.int .i64))/\Below w.heap.size w w':=by
 have b1:=Bx.new (w.alloc (.cells #[nm,.slice A n c] 101)) 161 #[(0:Int),ByteArray.empty,(),()];rw[show(w.alloc (.cells #[nm,.slice A n c] 101)).heap.size=w.heap.size+1 from by simp] at b1;have a:Below w.heap.size w ((w.alloc (.cells #[nm,.slice A n c] 101)).alloc (.cells #[(0:Int),ByteArray.empty,(),()] 161)):=((qaa _ _).alloc (qab _) _).alloc (by simp) _;have o:((w.alloc (.cells #[nm,.slice A n c] 101)).alloc (.cells #[(0:Int),ByteArray.empty,(),()] 161)).heap.size=w.heap.size+2:=by simp
 have l:=zI o;have V:=zI (Jpa nm A n c ts _ (hA.below a) hn);have k:=zI hA;have u:=zI hB;clear o hA hB;go_enter Tryz.func97,Tryz.ntmps97;go_wp2_with fail
 refine V.out.mono ?_;rintro e w2 ⟨A',c',rfl,t,s⟩;rw[l.out] at t;have p1:=b1.below s;have r:=a.trans (s.mono a.size);have j:=zI (Jvy B m d fs w2 (u.out.below r) hm);have Z:=s.size;rw[l.out] at Z;have U:=zI t;clear V b1 a s t;go_wp2_with fail
 refine j.out.mono ?_;rintro e w3 ⟨v,rfl,x,y⟩;have p:=p1.below y;have h:=zI (U.out.kept (row:=none) ⟨y.os,y.tape,y.output,y.size,fun i hi _=>y.block i hi⟩ (by cases (Value.slice A' n c').ownBlock<;>simp))
 have f:=r.trans (y.mono r.size);obtain⟨B',d',rfl,T⟩:=own_ints x u.out.len u.out.wf (by unfold maxLen;omega);have b:=zI x;have S:=zI T;have f0:=p.free 0;have f1:=p.free 1;have f2:=p.free 2;have f3:=p.free 3;have r0:=p.at_ 0 rfl;have r1:=p.at_ 1 rfl;have r2:=p.at_ 2 rfl;have r3:=p.at_ 3 rfl;clear p1 y x T j U r;go_wp2;have X:=(((p.set 0 (now:Int)).set 1 nm).set 2 (.slice A' n c')).set 3 (.slice B' m d');have x0:=X.at_ 0 rfl;have x1:=X.at_ 1 rfl;have x2:=X.at_ 2 rfl;have x3:=X.at_ 3 rfl;have q:Below w.heap.size w ((((w3.setCell ⟨w.heap.size+1,0,none⟩ (now:Int)).setCell ⟨w.heap.size+1,1,none⟩ nm).setCell ⟨w.heap.size+1,2,none⟩ (.slice A' n c')).setCell ⟨w.heap.size+1,3,none⟩ (.slice B' m d')):=(((f.setCell (by simp) _).setCell (by simp) _).setCell (by simp) _).setCell (by simp) _
 have ra:((((w3.setCell ⟨w.heap.size+1,0,none⟩ (now:Int)).setCell ⟨w.heap.size+1,1,none⟩ nm).setCell ⟨w.heap.size+1,2,none⟩ (.slice A' n c')).setCell ⟨w.heap.size+1,3,none⟩ (.slice B' m d')).ownsRow w.heap.size 167 4 (.slice A' n c') n (ts.flatMap Ti.cells):=by
  have z:∀g,(Value.slice A' n c').ownBlock=some g ->g≠w.heap.size+1:=fun g hg e=>by have:=(h.out.lt g hg).1;omega
  exact Jkc (Jbz (Jbz (Jbz (Jbz h.out (fun g hg=>z g hg) _) (fun g hg=>z g hg) _) (fun g hg=>z g hg) _) (fun g hg=>z g hg) _) (by omega)
 have rb:((((w3.setCell ⟨w.heap.size+1,0,none⟩ (now:Int)).setCell ⟨w.heap.size+1,1,none⟩ nm).setCell ⟨w.heap.size+1,2,none⟩ (.slice A' n c')).setCell ⟨w.heap.size+1,3,none⟩ (.slice B' m d')).ownsRow w.heap.size 3 1 (.slice B' m d') m (fs.map (Value.int .i64)):=by
  have z:∀g,(Value.slice B' m d').ownBlock=some g ->g≠w.heap.size+1:=fun g hg e=>by have:=(b.out.lt g hg).1;omega
  exact Jkc (Jbz (Jbz (Jbz (Jbz b.out (fun g hg=>z g hg) _) (fun g hg=>z g hg) _) (fun g hg=>z g hg) _) (fun g hg=>z g hg) _) (by omega)
 generalize ((((w3.setCell ⟨w.heap.size+1,0,none⟩ (now:Int)).setCell ⟨w.heap.size+1,1,none⟩ nm).setCell ⟨w.heap.size+1,2,none⟩ (.slice A' n c')).setCell ⟨w.heap.size+1,3,none⟩ (.slice B' m d'))=W at x0 x1 x2 x3 q ra rb ⊢;refine qa6 (v:=rchV now nm A' n c' B' m d') (by simp[results,Tryz.results97,go_sem,x0,x1,x2,x3]) rfl ⟨A',c',B',d',rfl,⟨?_,?_,hnow⟩,ra,rb,q⟩
 · obtain⟨A2,c2,e,Y⟩:=Jis ra k.out.len k.out.ok (by unfold maxLen;omega)
   cases e
   exact Y
 · obtain⟨A2,c2,e,Y⟩:=own_ints rb u.out.len u.out.wf (by unfold maxLen;omega)
   cases e
   exact Y
end Go.Proofs.YtglmhddbhhcjdaaGreatDoor
namespace Go.Proofs.YtglmhddbhhcjdaaGreatDoor
open Go.RowKit Go.Maps Go.Shelf
theorem Jan.drew{w:World}{g mm:Nat}{ev:Int}{l:List Rc}(h:Jan w g mm ev l):Jan w.drew g mm ev l:=h.below ((qaa _ _).drew)
theorem Jyc{w:World}{mm:Nat}{l:List Rc}(h:MapAt w mm l):
  Cs 202 #[.map (some mm)] w fun e w'=>e= .returned (.map (some w.heap.size))/\MapAt w' w.heap.size l/\Below w.heap.size w w':=by
 obtain⟨D,z,y⟩:=h.own;refine(AnyW.maps_Clone_owns Tryz.cloneM 289 Jc3 mm l.length D w z).mono ?_;rintro e w' ⟨rfl,x,_,v⟩;exact⟨rfl,MapAt.mk' x y,v⟩
theorem J3j{w:World}{mm:Nat}{ev:Int}{l:List Rc}(h:MapAt w mm l):Jan (w.alloc (.cells #[(ev:Int),.map (some mm)] 257)) w.heap.size mm ev l:=
 ⟨qci w _,h.below ((qaa _ _).alloc (qab _) _)⟩
theorem Jpm{w:World}{g mm:Nat}{ev:Int}{l:List Rc}(h:Jan w g mm ev l):
  Cs 121 #[g] w fun e w'=>∃g2 mm2,e= .returned (g2:Nat)/\Jan w' g2 mm2 ev l/\Below w.heap.size w w'/\w.heap.size<=g2/\w.heap.size<=mm2:=by
 have y:=h.drew;obtain⟨c0,c1⟩:=h.cells;obtain⟨d0,d1⟩:=y.cells;go_enter Tryz.func121,Tryz.ntmps121;go_wp2_with fail
 go_region_with (first
  | (go_at_call 202;refine(Jyc y.map).mono ?_;rintro e w2 ⟨rfl,x,z⟩
     have v:=y.below z;obtain⟨e0,e1⟩:=v.cells))
 all_goals
  go_wp2;go_ret;exact⟨_,_,rfl,J3j x,((qaa _ w).drew.trans z).alloc z.size _,z.size,qab _⟩
end Go.Proofs.YtglmhddbhhcjdaaGreatDoor
namespace Go.Proofs.YtglmhddbhhcjdaaGreatDoor
open Go.RowKit
structure Tv where
 r:Rch
 tabs:List (List Rc)
def Tv.tab (t:Tv) (i:Nat):List Rc:=t.tabs.getD i []
def Tv.withFs (t:Tv) (fl:List Int):Tv:=⟨⟨t.r.now,t.r.nm,t.r.ts,fl⟩,t.tabs⟩
def Rch.ev (r:Rch) (i:Nat):Int:=((r.ts[i]?).map Ti.ev).getD 0
def Rch.sh (r:Rch) (i:Nat):Int:=((r.ts[i]?).map Ti.sh).getD 0
theorem Rch.ev_at{r:Rch}{i:Nat}(h:i<r.ts.length):r.ev i=(r.ts[i]).ev:=by unfold Rch.ev;rw[qah h];rfl
theorem Rch.sh_at{r:Rch}{i:Nat}(h:i<r.ts.length):r.sh i=(r.ts[i]).sh:=by unfold Rch.sh;rw[qah h];rfl
def ptrV (a:Nat):Value:= a
structure Jpn (w:World) (F:Nat ->Prop) (L:Option Addr) (k:Nat) (ga gm:Nat ->Nat) (ev:Nat ->Int) (tab:Nat ->List Rc):Prop where
 row:Sl w L ((List.range k).map fun i=>ptrV (ga i))
 tab:∀i,i<k ->Jan w (ga i) (gm i) (ev i) (tab i)
 apart:∀i j,i<k ->j<k ->gm i=gm j ->i=j
 ina:∀i,i<k ->F (ga i)/\F (gm i)
 inl:AIn F L
structure Jag (w:World) (F:Nat ->Prop) (g:Nat) (t:Tv):Prop where
 ex:∃A c B m d L cl ga gm,Bx w g 164 #[(t.r.now:Int),t.r.nm,.slice A t.tabs.length c,.slice B m d,.slice L t.tabs.length cl]/\Jem w A t.tabs.length B m t.r/\t.tabs.length<=c/\m<=1000000/\AIn F A/\AIn F B/\Jpn w F L t.tabs.length ga gm t.r.ev t.tab
 g:F g
 ins:Ins F w
 few:t.tabs.length<=1000
 nm:t.r.nm.size<=maxLen
section
variable {w w':World} {F G:Nat ->Prop} {g:Nat} {t:Tv}
theorem Jpn.chg{L:Option Addr}{k:Nat}{ga gm:Nat ->Nat}{ev:Nat ->Int}{tab:Nat ->List Rc}(h:Jpn w F L k ga gm ev tab)(hc:Chg G w w')(hd:Dj F G):Jpn w' F L k ga gm ev tab:=
 ⟨h.row.chg hc (h.inl.dj hd),fun i hi=>(h.tab i hi).chg hc (hd _ (h.ina i hi).1) (hd _ (h.ina i hi).2),h.apart,h.ina,h.inl⟩
theorem Jem.chg{A B:Option Addr}{n m:Nat}{r:Rch}(h:Jem w A n B m r)(hc:Chg G w w')(hA:AIn (fun b=> ¬ G b) A)(hB:AIn (fun b=> ¬ G b) B):Jem w' A n B m r:=⟨h.ts.chg hc hA,h.fs.chg hc hB,h.now⟩
theorem Jag.chg(h:Jag w F g t)(hc:Chg G w w')(hd:Dj F G):Jag w' F g t:=by
 obtain⟨A,c,B,m,d,L,cl,ga,gm,v,u,s,z,y,x,r⟩:=h.ex;exact⟨⟨A,c,B,m,d,L,cl,ga,gm,v.chg hc (hd g h.g),u.chg hc (y.dj hd) (x.dj hd),s,z,y,x,r.chg hc hd⟩,h.g,h.ins.up hc.size,h.few,h.nm⟩
theorem Jag.below(h:Jag w F g t)(hb:Below w.heap.size w w'):Jag w' F g t:=h.chg (G:=fun _=>False) (Chg.of_below hb) (fun _ _ x=>x)
theorem Jag.len(h:Jag w F g t):t.r.ts.length=t.tabs.length:=by
 obtain⟨A,c,B,m,d,L,cl,ga,gm,y,z,_⟩:=h.ex;exact z.ts.len
end
