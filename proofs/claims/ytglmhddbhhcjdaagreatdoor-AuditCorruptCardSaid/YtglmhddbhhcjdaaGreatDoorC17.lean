/- Laws that the walk of the last text wants. -/
import Derived.Test.YtglmhddbhhcjdaaGreatDoorC14
import Derived.Test.YtglmhddbhhcjdaaGreatDoorC9
import Derived.Test.YtglmhddbhhcjdaaGreatDoorC16
import Derived.Test.YtglmhddbhhcjdaaGreatDoorC10
set_option maxRecDepth 100000
set_option linter.unusedSimpArgs false
set_option maxHeartbeats 4000000
namespace Go.Proofs.YtglmhddbhhcjdaaGreatDoor.Led
open Go.RowKit Go.Maps
def Jze (from_ n:Int) (w:World) (e:Ending) (w':World):Prop:=
 ∃g m mm f k,e= .returned (g:Nat)/\Jad w' w.heap.size g m mm f k [] []/\Below w.heap.size w w'/\
  f=max from_ 0/\k=if from_<0\/4096<from_\/n<0 then 0 else min n 4096
theorem Jzf{w1:World}{B g0 m:Nat}{f k:Int}(h:Jaz w1 g0 m f k [])(hB:B<=w1.heap.size)(hm:B<=m):
  Jad ((w1.alloc (.map #[] 0)).alloc (.cells #[(f:Int),(k:Int),.map (some m),.map (some w1.heap.size)] 339)) B (w1.heap.size+1) m w1.heap.size f k [] []:=by
 have x:=(h.below ((qaa _ _).alloc (qab _) (.map #[] 0))).below ((qaa _ _).alloc (qab _) (.cells #[(f:Int),(k:Int),.map (some m),.map (some w1.heap.size)] 339))
 have z:((w1.alloc (.map #[] 0)).alloc (.cells #[(f:Int),(k:Int),.map (some m),.map (some w1.heap.size)] 339)).heap[w1.heap.size+1]? =some (.cells #[(f:Int),(k:Int),.map (some m),.map (some w1.heap.size)] 339 (0,0)):=by
  have:=qci (w1.alloc (.map #[] 0)) (.cells #[(f:Int),(k:Int),.map (some m),.map (some w1.heap.size)] 339);simpa using this
 have y:=h.set.lt;refine⟨⟨⟨⟨_,_,z⟩,x.set,h.rng,by simp⟩,qb4 _ _ 3 _ _ _ z,(World.ownsMap_made w1 _ _ _).alloc _,by simp,by simp,by simp,by simp,by omega,by omega,hm,hB⟩,⟨by simp,by simp,?_,by simp,by simp⟩⟩;have:=h.rng;simp[sumL];omega
theorem J4j(from_ n:Int)(w:World)(hf: -9223372036854775808<=from_/\from_<=9223372036854775807):
  Cs 160 #[(from_:Int),(n:Int)] w (Jze from_ n w):=by
 have u:=@run_makeMap Tryz.prog;go_enter Tryz.func160,Tryz.ntmps160
 go_wp2_with (first
  | (go_at_call 244;refine(J61 _ _ _ hf).mono ?_;rintro e w1 ⟨g0,m,f,k,rfl,x,z,t,s,y,v⟩
     obtain⟨c0,c1,c2⟩:=x.cells;have r:=zI y;have q:=zI v;clear y v))
 go_ret;exact⟨_,m,_,f,k,rfl,Jzf x z.size s,(z.alloc z.size _).alloc (by have:=z.size;simp;omega) _,r.out,q.out⟩
end Go.Proofs.YtglmhddbhhcjdaaGreatDoor.Led
namespace Go.Proofs.YtglmhddbhhcjdaaGreatDoor
open Go.RowKit Go.Maps
structure KSet (w:World) (k:TypeId) (b:Nat) (ks:List Lit):Prop where
 own:∃D:DataW Unit,w.ownsMap Tryz.prog k (unitElem (H:=Unit)) b ks.length D/\Maps.size D=ks.length/\∀l,Maps.has D l=true ->l∈ks
section
variable {w w':World} {k:TypeId} {b:Nat} {ks:List Lit}
theorem KSet.lt(h:KSet w k b ks):b<w.heap.size:=by obtain⟨D,z,_⟩:=h.own;exact z.lt
theorem KSet.grown{row:Option Nat}(h:KSet w k b ks)(hg:w.grownBy w' row)(hne:some b≠row):KSet w' k b ks:=by
 obtain⟨D,z,y⟩:=h.own;exact⟨D,z.kept hg hne,y⟩
theorem KSet.below(h:KSet w k b ks)(hb:Below w.heap.size w w'):KSet w' k b ks:=h.grown (Jab hb none) (by simp)
theorem KSet.made(w:World)(k:TypeId):KSet (w.alloc (.map #[] 0)) k w.heap.size []:=⟨.map [],World.ownsMap_made w _ _ _,by rw[Maps.size_eq];rfl,fun l h=>by rw[Maps.has_eq] at h;simp at h⟩
theorem Jun{ops:Array Oper}{rest:List Oper}{o:Oper}{a:Act}{Q:Exit ->Act ->World ->Prop}{t e:TypeId}(hg:o.guard=none)(m x v:Operand)(hop:o.op=Op.mapUpdate t m x v)(K:Keyed Tryz.prog k)(ht:Tryz.prog.underlying t=some (.map k e))(hm:a.eval m= .map (some b))(h:KSet w k b ks)(hn:ks.length<1000000)(key:Value)(kl:Lit)(hx:a.eval x=key)(hv:a.eval v= .agg #[])(hkey:keyOf Tryz.prog k key=some kl)(hne:kl∉ks)(hK:∀w',KSet w' k b (ks++[kl]) ->w.grownBy w' (some b) ->wpList Tryz.prog ops Q rest (a.put o.dst undef) w'):wpList Tryz.prog ops Q (o::rest) a w:=by
 obtain⟨D,z,u,y⟩:=h.own
 have s:Maps.has D kl=false:=by
  cases e:Maps.has D kl with
  | false=>rfl
  | true=>exact absurd (y _ e) hne
 refine wpList_mapUpdate_in w hg m x v t hop k e K ht _ b _ D hm z (by unfold maxLen;omega) key (.agg #[]) kl hx hv hkey (.agg []) [] unitElem_mk (fun w' r1 r2=>hK w' ⟨D.put kl (.agg []),?_,?_,fun l hl=> ?_⟩ r2.grown)
 · rw[qad];exact r1
 · rw[Maps.size_put (z.tidy K),s,qad];simp[u]
 · by_cases e:l=kl
   · rw[e];simp
   · rw[Maps.has_put_other e] at hl
     exact List.mem_append_left _ (y _ hl)
theorem KSet.len(h:KSet w k b ks){t e:TypeId}(ht:Tryz.prog.underlying t=some (.map k e))(ty:TypeId):(Builtin.len_ #[t] ty #[.map (some b)]).run Tryz.prog w= .ok (ks.length:Int) w:=by
 obtain⟨D,z,y,_⟩:=h.own;rw[z.len ht ty,y]
end
def plit (a b:Int):Lit:= .string (keyBytes [.int .i64 a,.int .i64 b])
theorem Juo:Keyed Tryz.prog 464:=Keyed.of_law (deep_law_laid (by kernel_rfl) (m:=3) (by omega) (qb7 (by kernel_rfl)) (by kernel_rfl) (by kernel_rfl))
theorem Joe{a b:Int}(ha:(Lit.int .i64 a).wf=true)(hb:(Lit.int .i64 b).wf=true):keyOf Tryz.prog 464 (.agg #[(a:Int),(b:Int)])=some (plit a b):=by
 obtain⟨m,y⟩:∃m,Tryz.prog.types.size=m+2:=by
  have h:1<Tryz.prog.types.size:=qb7 (by kernel_rfl);exact⟨Tryz.prog.types.size - 2,by omega⟩
 have x:Tryz.prog.keyType 464=true:=by kernel_rfl
 have z:Tryz.prog.cellsOf 464=2:=by kernel_rfl
 have c3:Tryz.prog.cellsOf 3=1:=by kernel_rfl
 have w:(Value.agg #[(a:Int),(b:Int)]).formed Tryz.prog 464=true:=by
  simp[Value.formed,Tryz.underlying464,z]
 have v:Tryz.prog.keyLits (Tryz.prog.types.size+1) 464 (Value.agg #[.int .i64 a,.int .i64 b]).cells.toList=some [.int .i64 a,.int .i64 b]:=by
  rw[y];simp[Program.keyLits,Value.cells,Tryz.underlying464,Tryz.underlying3,z,c3,ha,hb,show List.range 2=[0,1] from rfl]
 unfold keyOf;rw[Tryz.underlying464];simp only[x,w,Bool.and_self,if_true,v,Option.map_some];rfl
theorem J4k{a b c d:Int}(ha:(Lit.int .i64 a).wf=true)(hb:(Lit.int .i64 b).wf=true)(hc:(Lit.int .i64 c).wf=true)(hd:(Lit.int .i64 d).wf=true)(h:plit a b=plit c d):a=c/\b=d:=by
 have y:=Joe ha hb;have z:=Joe hc hd;rw[<- h] at z;have:=Juo.inj y z
 simpa using this
end Go.Proofs.YtglmhddbhhcjdaaGreatDoor
namespace Go.Proofs.YtglmhddbhhcjdaaGreatDoor
open Go.RowKit
def Jfa (x:Int×ByteArray):List Value:=[(x.1:Int),x.2]
structure Jbl (w:World) (B g mn ml N n:Nat) (f fl:Int ->Option ByteArray) (ws:List (Int×ByteArray)) (vW:Value):Prop where
 ex:∃wr left,Bx w g 97 #[true,(wr:Int),false,(left:Int),(),(N:Int),.map (some mn),.map (some ml),vW]
 row:w.ownsRow B 156 2 vW ws.length (ws.flatMap Jfa)
 now:SMap w mn n f
 lasts:SMap w ml n fl
 ne:mn≠ml
 size:1<=N/\N<=4096
def dkF (g mn ml:Nat) (vW:Value) (b:Nat):Prop:=b=g\/b=mn\/b=ml\/vW.ownBlock=some b
section
variable {w w':World} {B g mn ml N n:Nat} {f fl:Int ->Option ByteArray} {ws:List (Int×ByteArray)} {vW:Value}
theorem Jbl.keep(h:Jbl w B g mn ml N n f fl ws vW)(hk:∀b,b<w.heap.size ->dkF g mn ml vW b ->w'.heap[b]? =w.heap[b]?):Jbl w' B g mn ml N n f fl ws vW:=by
 obtain⟨wr,left,y⟩:=h.ex;refine⟨⟨wr,left,⟨(hk g y.lt (.inl rfl)).trans y.blk⟩⟩,⟨h.row.1,?_⟩,h.now.keep (hk mn h.now.lt (.inr (.inl rfl))),h.lasts.keep (hk ml h.lasts.lt (.inr (.inr (.inl rfl)))),h.ne,h.size⟩;rcases h.row.2 with v | ⟨g',cap,cur,rfl,z,x,rest⟩
 · exact .inl v
 · exact .inr ⟨g',cap,cur,rfl,z,(hk g' (qcb x) (.inr (.inr (.inr rfl)))).trans x,rest⟩
theorem Jbl.below(h:Jbl w B g mn ml N n f fl ws vW)(hb:Below w.heap.size w w'):Jbl w' B g mn ml N n f fl ws vW:=h.keep fun b hlt _=>hb.block b hlt
theorem Jbl.chg{F:Nat ->Prop}(h:Jbl w B g mn ml N n f fl ws vW)(hc:Chg F w w')(hF:∀b,dkF g mn ml vW b -> ¬ F b):Jbl w' B g mn ml N n f fl ws vW:=h.keep fun b hlt hd=>hc.block b hlt (hF b hd)
end
theorem Jsm{B g mn ml N n:Nat}{f fl:Int ->Option ByteArray}{ws:List (Int×ByteArray)}{vW:Value}(w:World)(h:Jbl w B g mn ml N n f fl ws vW):
  Cs 78 #[g] w fun e w'=>e= .returned false/\w=w':=by
 obtain⟨wr,left,z⟩:=h.ex;have e0:=z.at_ 0 (v:= true) rfl;clear h z;go_enter Tryz.func78,Tryz.ntmps78;go_wp2;go_ret;exact⟨rfl,rfl⟩
theorem Jwj{B g mn ml N n:Nat}{f fl:Int ->Option ByteArray}{ws:List (Int×ByteArray)}{vW:Value}(w:World)(h:Jbl w B g mn ml N n f fl ws vW):
  Cs 36 #[g] w (RS w (N:Int)):=by
 obtain⟨wr,left,z⟩:=h.ex;have e0:=z.at_ 5 (v:= (N:Int)) rfl;clear h z;go_enter Tryz.func36,Tryz.ntmps36;go_wp2;go_ret;exact⟨rfl,rfl⟩
theorem Jup{B g mn ml N n:Nat}{f fl:Int ->Option ByteArray}{ws:List (Int×ByteArray)}{vW:Value}(w:World)(h:Jbl w B g mn ml N n f fl ws vW):
  Cs 80 #[g] w fun e w'=>e= .returned false/\Jbl w' B g mn ml N n f fl ws vW/\w.grownBy w' (some g):=by
 obtain⟨wr,left,y⟩:=h.ex;have e1:=y.at_ 1 (v:= (wr:Int)) rfl;have e2:=y.at_ 2 (v:= false) rfl;have f1:=y.free 1;have x:=zI y;have z:=zI h;clear h y;go_enter Tryz.func80,Tryz.ntmps80;go_wp2;go_ret;have u:=Jam w g 1 (wrap64 (wr+1):Int);refine⟨rfl,⟨⟨wrap64 (wr+1),left,x.out.set 1 _⟩,z.out.row.kept u (.inr fun e=>x.out.not_row z.out.row (by decide) e.symm),z.out.now.grown u ?_,z.out.lasts.grown u ?_,z.out.ne,z.out.size⟩,u⟩
 · intro e
   cases e
   exact z.out.now.nocells _ _ _ x.out.blk
 · intro e
   cases e
   exact z.out.lasts.nocells _ _ _ x.out.blk
theorem Juq:∀c:Nat,Lib.repeatL [(0:UInt8)] c=zeros c
 | 0=>rfl
 | c+1=>by
   have h:=Juq c;simp[Lib.repeatL,zeros,List.replicate_succ] at h ⊢;first | exact h | (rw[h])
theorem Jof(c:Nat)(w:World)(hc:c<=100000):Cs 79 #[.string ⟨#[0]⟩,(c:Int)] w (RB w (strOf (zeros c))):=by
 refine(Tryz.strings_Repeat ⟨#[0]⟩ c w (by omega) (by show 1*c<=_;omega)).mono ?_;rintro e w1 ⟨rfl,z⟩;refine⟨?_,z⟩;show Ending.returned (.string ⟨(Lib.repeatL [0] c).toArray⟩)=_;rw[Juq];rfl
def Jav (f:Int ->Option ByteArray) (at_:Int):ByteArray:=(f at_).getD (strOf (zeros 256))
theorem J7v{B g mn ml N n:Nat}{f fl:Int ->Option ByteArray}{ws:List (Int×ByteArray)}{vW:Value}(w:World)(h:Jbl w B g mn ml N n f fl ws vW)(k:Nat)(hk:k<N):
  Cs 27 #[g,(k:Int)] w (RB w (.tuple #[(Jav f k),(0:Int)])):=by
 have p:=zI (Jsm w h);obtain⟨wr,left,x⟩:=h.ex;have e5:=x.at_ 5 (v:= (N:Int)) rfl;have e6:=x.at_ 6 (v:= .map (some mn)) rfl;have m:=h.size.2
 have u:(Lit.int .i64 (k:Int)).wf=true:=by
  have e1:IntKind.i64.min= -9223372036854775808/\IntKind.i64.max=9223372036854775807:=by decide
  simp[Lit.wf,e1.1,e1.2];omega
 have z:=h.now.look u;have o:=zI (Jof 256 w (by omega));have l:decide ((k:Int)<0)=false:=qae (by omega);have j:decide ((N:Int)<=(k:Int))=false:=qae (by omega);clear h x;cases hf:f k with
 | none=>
   have t:=zI (show Jav f k=strOf (zeros 256) from by unfold Jav;rw[hf];rfl);have y:Jsi f k= .tuple #[ByteArray.empty,false]:=by unfold Jsi;rw[hf]
   rw[y] at z;clear y hf;go_enter Tryz.func27,Tryz.ntmps27;go_wp2_with fail
   refine p.out.mono ?_;rintro e w1 ⟨rfl,r⟩;subst r;go_wp2_with fail
   refine o.out.mono ?_;rintro e w2 ⟨rfl,q⟩;go_wp2_with fail
   go_ret2;exact⟨by rw[t.out];rfl,q⟩
 | some s=>
   have t:=zI (show Jav f k=s from by unfold Jav;rw[hf];rfl);have y:Jsi f k= .tuple #[s,true]:=by unfold Jsi;rw[hf]
   rw[y] at z;clear y hf;go_enter Tryz.func27,Tryz.ntmps27;go_wp2_with fail
   refine p.out.mono ?_;rintro e w1 ⟨rfl,r⟩;subst r;go_wp2_with fail
   go_ret2;exact⟨by rw[t.out];rfl,qaa _ _⟩
open Go.Maps
theorem SMap.store_run{w:World}{b n:Nat}{f:Int ->Option ByteArray}(h:SMap w b n f)(hn:n<maxLen){k:Int}{s:ByteArray}(hk:(Lit.int .i64 k).wf=true)(hs:s.size<=maxLen):
  ∃w',(Instr.mapUpdate 94 (.map (some b)) (k:Int) s).run Tryz.prog w= .ok () w'/\SMap w' b (n+1) (setS f k s)/\w.grownBy w' (some b):=by
 obtain⟨D,y,x⟩:=h.own;obtain⟨w',z,r1,r2⟩:=y.update (int_keyed Tryz.underlying3) Tryz.underlying94 hn (keyOf_int_mk Tryz.underlying3 hk) (plainElem_string Tryz.underlying9 hs);exact⟨w',z,⟨_,r1,x.put k s⟩,r2⟩
theorem J9r:(Tryz.prog.info? 156).map (fun i=>(i.zero,i.size,i.bytes))=some (some (.agg #[(0:Int),ByteArray.empty]),2,24):=by kernel_rfl
theorem J4l{B g mn ml N n:Nat}{f fl:Int ->Option ByteArray}{ws:List (Int×ByteArray)}{vW:Value}(w:World)(h:Jbl w B g mn ml N n f fl ws vW)(k:Nat)(hk:k<N)(s:ByteArray)(hs:s.size=256)(hn:n<=1000000)(hws:ws.length<=1000000)(hB:B<=w.heap.size):
  Cs 28 #[g,(k:Int),s] w fun e w'=>e= .returned (0:Int)/\∃vW',Jbl w' B g mn ml N (n+1) (setS f k s) fl (ws++[((k:Int),s)]) vW'/\Chg (dkF g mn ml vW) w w'/\∀b,dkF g mn ml vW' b ->dkF g mn ml vW b\/w.heap.size<=b:=by
 obtain⟨i0,hi,T,S,R⟩:=qb2 J9r;have HI:=zI hi;have Hg:=zI T;have Hh:=zI S;have Hi:=zI R;clear hi T S R;have HO:=zI (Jsm w h);have HG:=zI (Jup w h);obtain⟨wr,left,hb⟩:=h.ex;have e5:=hb.at_ 5 (v:= (N:Int)) rfl;have hN:=h.size.2
 have P:(Lit.int .i64 (k:Int)).wf=true:=by
  have e1:IntKind.i64.min= -9223372036854775808/\IntKind.i64.max=9223372036854775807:=by decide
  simp[Lit.wf,e1.1,e1.2];omega
 have Hj:=zI P;have h1:decide ((k:Int)<0)=false:=qae (by omega);have h2:decide ((N:Int)<=(k:Int))=false:=qae (by omega);clear h hb P;go_enter Tryz.func28,Tryz.ntmps28;go_wp2_with fail
 refine HO.out.mono ?_;rintro e w1 ⟨rfl,hw⟩;subst hw;go_wp2_with fail
 refine HG.out.mono ?_;rintro e w2 ⟨rfl,O,M⟩;have Hk:=zI O;have L:=zI M;have Hl:=zI (Jcv s w2 (by omega));clear O M e5;go_wp2_with fail
 refine Hl.out.mono ?_;rintro e w3 ⟨rfl,K⟩;have i:=(qaa w3.heap.size w3).alloc (qab _) (.cells #[(k:Int),s] 156);have o:=Bx.new w3 156 #[(k:Int),s];obtain⟨w4,d⟩:=exE (w3.alloc (.cells #[(k:Int),s] 156));obtain⟨q,hq⟩:=exE w3.heap.size;rw[<- d] at i o;rw[<- hq] at o;have Hm:=zI d;have HQ:=zI hq;have l:=K.trans (i.mono K.size);have y:=zI (Hk.out.below l);obtain⟨wr4,left4,c⟩:=y.out.ex;have c6:=c.at_ 6 (v:= .map (some mn)) rfl;have p1:=o.at_ 1 (v:= s) rfl;have J:=zI o;have I:=zI c;obtain⟨w5,H,G,E⟩:=(y.out.now.below (w':=w4.drew) (qaa _ _).drew).store_run (by unfold maxLen;omega) Hj.out (show s.size<=maxLen by unfold maxLen;omega);have Hn:=zI G;have p:=zI E;clear d hq i c o G E;go_upto_region 11 with fail
 rw[<- HQ.out,<- Hm.out];go_region
 have C:some g≠some mn:=fun e=>by cases e;exact y.out.now.nocells _ _ _ I.out.blk
 have A:some q≠some mn:=fun e=>by cases e;exact y.out.now.nocells _ _ _ J.out.blk
 have a:=zI ((I.out.below (w':=w4.drew) (qaa _ _).drew).grown p.out C);have hJ:=zI ((J.out.below (w':=w4.drew) (qaa _ _).drew).grown p.out A)
 have Ha:vW.ownBlock=none\/vW.ownBlock≠some mn:=by
  cases e:vW.ownBlock with
  | none=>exact .inl rfl
  | some z=>
    obtain⟨cs,Z⟩:=Jc0 y.out.row e;exact .inr fun e2=>by cases e2;exact y.out.now.nocells _ _ _ Z
 have Hb:=zI ((Jaf y.out.row (w':=w4.drew) (qaa _ _).drew).kept p.out Ha);have Ho:=zI ((y.out.lasts.below (w':=w4.drew) (qaa _ _).drew).grown p.out (fun e=>y.out.ne (qbr e).symm));obtain⟨AW,cW,rfl,_⟩:=Jao Hb.out;have d0:=a.out.at_ 8 rfl;have d1:=hJ.out.at_ 0 (v:= (k:Int)) rfl;have d2:=hJ.out.at_ 1 (v:= s) rfl;clear c6 p1 H C A Ha;go_upto_region 12 with fail
 have Y:=(qaa w5.heap.size w5).alloc (qab _) (.cells #[(k:Int),s] 156);have u:=Y.drew;have d0a:=(a.out.below Y).at_ 8 rfl;have r:=zI u;have Hp:=zI ((Sl.new w5 156 w5.heap.size [(k:Int),s] #[(k:Int),s] rfl rfl).below (qaa _ _).drew)
 have Hq:=zI (show ∀x∈[Value.int .i64 (k:Int),s],x.oneCell'=true from fun x hx=>by
  rcases qbb.1 hx with rfl | hx
  · rfl
  · rw[qa1.1 hx];rfl)
 have W:=zI (Jaf Hb.out u);have Hc:=zI (a.out.below u)
 have j:B<=(w5.alloc (.cells #[(k:Int),s] 156)).drew.heap.size:=by
  have e1:=L.out.size;have e2:=l.size;have e3:=p.out.size;have e4:=u.size;have e5:w4.drew.heap.size=w4.heap.size:=rfl;omega
 have Hr:=zI j;clear Y u j
 go_region_law (first
  | (refine Jb6 _ (by rfl) _ _ 95 (by rfl) B 156 i0 _ 2 24 Tryz.underlying95 HI.out Hg.out Hh.out Hi.out rfl (by decide) (.slice AW ws.length cW) ws.length (ws.flatMap Jfa) (by rfl) W.out (some ⟨w5.heap.size,0,none⟩) 1 1 [(k:Int),s] (by rfl) rfl Hp.out Hq.out (by unfold maxLen;omega) (by omega) Hr.out ?_
     intro v6 w6 t V Hd;obtain⟨AY,cY,eY,_⟩:=Jao t;subst eY;have BX6:=zI (Hc.out.grown V (Hc.out.not_row W.out (by decide)));have d8:=BX6.out.at_ 8 rfl;have f8:=BX6.out.free 8))
 all_goals
  have U:=Jam w6 g 8 (.slice AY (ws.length+1) cY);have bx7:=BX6.out.set 8 (.slice AY (ws.length+1) cY);have Hs:=t.kept U (.inr (fun e=>BX6.out.not_row t (by decide) e.symm))
  have He:∀ {m n':Nat} {f':Int ->Option ByteArray},SMap w5 m n' f' ->SMap (w6.setCell ⟨g,8,none⟩ (.slice AY (ws.length+1) cY)) m n' f':=fun {m n' f'} h=>by
   have h6:=(h.below r.out).grown V (fun e=>by
    obtain⟨cs,Z⟩:=Jc0 W.out e.symm;exact(h.below r.out).nocells _ _ _ Z)
   exact h6.grown U (fun e=>by cases e;exact h6.nocells _ _ _ BX6.out.blk)
  have Ht:=He Hn.out;obtain⟨D,Hu,Hv⟩:=(He Ho.out).own;have Hw:SMap (w6.setCell ⟨g,8,none⟩ (.slice AY (ws.length+1) cY)) ml (n+1) fl:=⟨D,Hu.mono (Nat.le_succ n),Hv⟩;have c1:Chg (dkF g mn ml (.slice AW ws.length cW)) w w2:= .of_grown L.out (fun b e=>by cases e;exact .inl rfl);have c3:Chg (dkF g mn ml (.slice AW ws.length cW)) w w5:=((c1.then_below l).then_below (qaa w4.heap.size w4).drew).trans (Chg.of_grown (F:=dkF g mn ml (.slice AW ws.length cW)) p.out (fun b e=>by cases e;exact .inr (.inl rfl))) (fun b h=> .inl h);have c5:=(c3.then_below r.out).trans (Chg.of_grown (F:=dkF g mn ml (.slice AW ws.length cW)) V (fun b e=> .inr (.inr (.inr e)))) (fun b h=> .inl h);have c7:=c5.trans (Chg.of_grown (F:=dkF g mn ml (.slice AW ws.length cW)) U (fun b e=>by cases e;exact .inl rfl)) (fun b h=> .inl h);have Hx:w.heap.size<=(w5.alloc (.cells #[(k:Int),s] 156)).drew.heap.size:=(c3.then_below r.out).size
  have Hf:(w6.setCell ⟨g,8,none⟩ (.slice AY (ws.length+1) cY)).ownsRow B 156 2 (.slice AY (ws.length+1) cY) (ws++[((k:Int),s)]).length ((ws++[((k:Int),s)]).flatMap Jfa):=by
   rw[qad,qav];exact Hs
  go_wp2_with fail
  go_ret;refine⟨rfl,.slice AY (ws.length+1) cY,⟨⟨wr4,left4,bx7⟩,Hf,Ht,Hw,y.out.ne,y.out.size⟩,c7,fun b hb=> ?_⟩;rcases hb with h | h | h | h
  · exact .inl (.inl h)
  · exact .inl (.inr (.inl h))
  · exact .inl (.inr (.inr (.inl h)))
  · rcases Hd with e | e
    · exact .inl (.inr (.inr (.inr (e.symm.trans h))))
    · have h9:=qbr (e.symm.trans h)
      exact .inr (by rw[<- h9];exact Hx)
theorem J7w(N:Nat)(w:World)(h1:1<=N)(h2:N<=4096):
  Cs 11 #[(N:Int)] w fun e w'=>∃g mn ml,e= .returned (g:Nat)/\Jbl w' w.heap.size g mn ml N 0 (fun _=>none) (fun _=>none) [] ()/\Below w.heap.size w w'/\∀b,dkF g mn ml () b ->w.heap.size<=b:=by
 have d1:decide ((N:Int)<1)=false:=qae (by omega);have d2:decide ((4096:Int)<(N:Int))=false:=qae (by omega);have v:=@run_makeMap Tryz.prog;go_enter Tryz.func11,Tryz.ntmps11;go_wp2_with fail
 go_ret;have m1:=SMap.made w;have m2:=SMap.made (w.alloc (.map #[] 0));have b1:=(qaa w.heap.size w).alloc (qab _) (.map #[] 0);have b2:=(qaa (w.alloc (.map #[] 0)).heap.size (w.alloc (.map #[] 0))).alloc (qab _) (.map #[] 0);have b3:=(qaa ((w.alloc (.map #[] 0)).alloc (.map #[] 0)).heap.size ((w.alloc (.map #[] 0)).alloc (.map #[] 0))).alloc (qab _) (.cells #[true,(0:Int),false,(0:Int),(),(N:Int),.map (some w.heap.size),.map (some (w.heap.size+1)),()] 97);have x:=Bx.new ((w.alloc (.map #[] 0)).alloc (.map #[] 0)) 97 #[true,(0:Int),false,(0:Int),(),(N:Int),.map (some w.heap.size),.map (some (w.heap.size+1)),()];have z:(w.alloc (.map #[] 0)).heap.size=w.heap.size+1:=by simp
 have y:((w.alloc (.map #[] 0)).alloc (.map #[] 0)).heap.size=w.heap.size+2:=by simp
 have m2':=m2.below b3;rw[z] at m2';rw[y] at x;refine⟨w.heap.size+2,w.heap.size,w.heap.size+1,by first | rfl | simp,⟨⟨0,0,x⟩,qaz _ _ _ _,(m1.below b2).below b3,m2',by omega,h1,h2⟩,(b1.trans (b2.mono b1.size)).trans (b3.mono (qax b1.size b2.size)),fun b hb=> ?_⟩
 rcases hb with rfl | rfl | rfl | h
 · omega
 · omega
 · omega
 · cases h
def Jib (fl:Int ->Option ByteArray) (ws:List (Int×ByteArray)):Int ->Option ByteArray:=ws.foldl (fun f x=>setS f x.1 x.2) fl
theorem Jmn(fl:Int ->Option ByteArray)(ws:List (Int×ByteArray))(x:Int×ByteArray):Jib fl (ws++[x])=setS (Jib fl ws) x.1 x.2:=by simp[Jib]
theorem Kak{w:World}{A:Option Addr}{ws:List (Int×ByteArray)}(h:Sl w A (ws.flatMap Jfa)){k:Nat}(hk:k<ws.length):
  ∃b off,A=some ⟨b,off,none⟩/\w.cell? ⟨b,off+k*2,none⟩=some (.int .i64 ws[k].1)/\w.cell? ⟨b,off+k*2+1,none⟩=some (.string ws[k].2):=by
 have z:(ws.flatMap Jfa).length=2*ws.length:=by
  have:∀l:List (Int×ByteArray),(l.flatMap Jfa).length=2*l.length:=fun l=>by
   induction l with
   | nil=>rfl
   | cons a r ih=>rw[qau,qad,ih,qa3];simp[Jfa];omega
  exact this ws
 have x:∀ (l:List (Int×ByteArray)) (k:Nat) (hk:k<l.length),(l.flatMap Jfa)[k*2]? =some (.int .i64 l[k].1)/\(l.flatMap Jfa)[k*2+1]? =some (.string l[k].2):=by
  intro l
  induction l with
  | nil=>intro k hk;simp at hk
  | cons a r ih=>
    intro k hk;cases k with
    | zero=>exact⟨rfl,rfl⟩
    | succ k=>
      have:=ih k (by simpa using hk);rw[show(k+1)*2=k*2+2 by omega];exact this
 obtain⟨b,off,e,_,y⟩:=h.at_ (fun e=>by rw[e] at z;simp at z;omega);obtain⟨v,u⟩:=x ws k hk;exact⟨b,off,e,y _ _ v,y _ _ u⟩
theorem Jbl.lastSet{w w':World}{B g mn ml N n:Nat}{f fl fl':Int ->Option ByteArray}{ws:List (Int×ByteArray)}{vW:Value}(h:Jbl w B g mn ml N n f fl ws vW)(hm:SMap w' ml (n+1) fl')(hg:w.grownBy w' (some ml)):Jbl w' B g mn ml N (n+1) f fl' ws vW:=by
 obtain⟨wr,left,u⟩:=h.ex;have y:some g≠some ml:=fun e=>by cases e;exact h.lasts.nocells _ _ _ u.blk
 have x:vW.ownBlock=none\/vW.ownBlock≠some ml:=by
  cases e:vW.ownBlock with
  | none=>exact .inl rfl
  | some z=>
    obtain⟨cs,v⟩:=Jc0 h.row e;exact .inr fun e2=>by cases e2;exact h.lasts.nocells _ _ _ v
 obtain⟨D,t,s⟩:=(h.now.grown hg (fun e=>h.ne (qbr e))).own;exact⟨⟨wr,left,u.grown hg y⟩,h.row.kept hg x,⟨D,t.mono (Nat.le_succ n),s⟩,hm,h.ne,h.size⟩
theorem J4m{B g mn ml N n:Nat}{f fl:Int ->Option ByteArray}{ws:List (Int×ByteArray)}{vW:Value}(w:World)(h:Jbl w B g mn ml N n f fl ws vW)(hw:∀x∈ws,(Lit.int .i64 x.1).wf=true/\x.2.size<=maxLen)(hn:n+ws.length<=1000000):
  Cs 161 #[g] w fun e w'=>e= .returned (0:Int)/\Jbl w' B g mn ml N (n+ws.length) f (Jib fl ws) [] ()/\Chg (dkF g mn ml vW) w w':=by
 have J:=zI (Jsm w h);have I:=zI (Jup w h);have H:=zI hw;obtain⟨AW,cW,rfl,_⟩:=Jao h.row;clear h hw;go_enter Tryz.func161,Tryz.ntmps161;go_wp2_with fail
 refine J.out.mono ?_;rintro e w1 ⟨rfl,hw⟩;subst hw;go_wp2_with fail
 refine I.out.mono ?_;rintro e w2 ⟨rfl,p,a⟩;have S:=zI p;have R:=zI (show Chg (dkF g mn ml (.slice AW ws.length cW)) w w2 from .of_grown a (fun b e=>by cases e;exact .inl rfl));obtain⟨wr2,left2,Z⟩:=p.ex;have c8:=Z.at_ 8 rfl;clear p a Z;go_wp2_with fail
 go_loopw [25] (fun i wr=>∃k:Nat,k<=ws.length/\i= .int .i64 (k:Int)/\Jbl wr B g mn ml N (n+k) f (Jib fl (ws.take k)) ws (.slice AW ws.length cW)/\Chg (dkF g mn ml (.slice AW ws.length cW)) w wr) (fun i _=>ws.length - (intOf i).toNat)
 case atStart=>exact⟨0,qaq _,rfl,S.out,R.out⟩
 case round=>
  obtain⟨k,E,rfl,u,T⟩:=hrel;by_cases o:k<ws.length
  · obtain⟨_,_,e,Y⟩:=Jao u.row
    cases e
    obtain⟨b,off,rfl,q0,q1⟩:=Kak Y o
    have G:=zI (show Jib fl (ws.take (k+1))=setS (Jib fl (ws.take k)) ws[k].1 ws[k].2 from by
     have e:ws.take (k+1)=ws.take k++[ws[k]]:=by rw[List.take_add_one,qah o];rfl
     rw[e,Jmn])
    obtain⟨P,O⟩:=H.out _ (qan o);generalize ws[k].1=at_ at*;generalize ws[k].2=s at*;have r:=(qaa wr.heap.size wr).alloc (qab _) (.cells #[(at_:Int),s] 156);have q:=Bx.new wr 156 #[(at_:Int),s];obtain⟨w4,m⟩:=exE (wr.alloc (.cells #[(at_:Int),s] 156));have M:=zI m;rw[<- m] at r q;have l:=u.below r;have t:=l.below (w':=w4.drew) (qaa _ _).drew;obtain⟨wr4,left4,z⟩:=l.ex;have c7:=z.at_ 7 (v:= .map (some ml)) rfl;have p0:=q.at_ 0 (v:= (at_:Int)) rfl;have p1:=q.at_ 1 (v:= s) rfl;obtain⟨w5,L,W,y⟩:=t.lasts.store_run (by unfold maxLen;omega) P O;have j:=zI (t.lastSet W y);have d:=zI (((T.then_below r).then_below (qaa w4.heap.size w4).drew).trans (Chg.of_grown (F:=dkF g mn ml (.slice (some ⟨b,off,none⟩) ws.length cW)) y (fun b e=>by cases e;exact .inr (.inr (.inl rfl)))) (fun b h=> .inl h));clear u T r q m l t z W y Y;go_upto_region 9 with fail
    rw[<- M.out];go_region
    go_wp2_with fail
    go_roundw
    case rel=>exact⟨k+1,by omega,by go_num,by rw[G.out];exact j.out,d.out⟩
    case measure=>simp[intOf];omega
  · have c:ws.length=k:=by omega
    have K:=zI (show ws.take k=ws from by rw[<- c,qca]);rw[K.out] at u;obtain⟨wr4,left4,z⟩:=u.ex;have f8:=z.free 8;have c8':=z.at_ 8 rfl;have bx5:=z.set 8 ();have y:=Jam wr g 8 ();have V:=u.now.grown y (fun e=>by cases e;exact u.now.nocells _ _ _ z.blk);have U:=u.lasts.grown y (fun e=>by cases e;exact u.lasts.nocells _ _ _ z.blk);have j:=zI (show Jbl (wr.setCell ⟨g,8,none⟩ ()) B g mn ml N (n+ws.length) f (Jib fl ws) [] () from⟨⟨wr4,left4,bx5⟩,qaz _ _ _ _,by rw[c];exact V,by rw[c];exact U,u.ne,u.size⟩);have d:=zI (T.trans (Chg.of_grown (F:=dkF g mn ml (.slice AW ws.length cW)) y (fun b e=>by cases e;exact .inl rfl)) (fun b h=> .inl h));clear u T z bx5 y V U K;go_wp2_with fail
    go_ret;exact⟨rfl,j.out,d.out⟩
end Go.Proofs.YtglmhddbhhcjdaaGreatDoor
namespace Go.Proofs.YtglmhddbhhcjdaaGreatDoor
open Go.RowKit
def Jsn (f:Int ->Option ByteArray):Prop:=∀k s,f k=some s ->s.size=256
theorem Jsn.set{f:Int ->Option ByteArray}(h:Jsn f){k:Int}{s:ByteArray}(hs:s.size=256):Jsn (setS f k s):=by
 intro i t e;unfold setS at e;split at e
 · cases e;exact hs
 · exact h i t e
theorem Jsn.none:Jsn (fun _=>Option.none):=fun _ _ e=>by cases e
structure DkAt (w:World) (F:Nat ->Prop) (g N n:Nat) (f fl:Int ->Option ByteArray) (ws:List (Int×ByteArray)):Prop where
 ex:∃B mn ml vW,Jbl w B g mn ml N n f fl ws vW/\B<=w.heap.size/\∀b,dkF g mn ml vW b ->F b
 ins:Ins F w
 ws:∀x∈ws,0<=x.1/\x.1<N/\x.2.size=256
 now:Jsn f
section
variable {w w':World} {F G:Nat ->Prop} {g N n:Nat} {f fl:Int ->Option ByteArray} {ws:List (Int×ByteArray)}
theorem Jbl.ins{B mn ml:Nat}{vW:Value}(h:Jbl w B g mn ml N n f fl ws vW):∀b,dkF g mn ml vW b ->b<w.heap.size:=by
 obtain⟨wr,left,z⟩:=h.ex;rintro b (rfl | rfl | rfl | y)
 · exact z.lt
 · exact h.now.lt
 · exact h.lasts.lt
 · obtain⟨cur,x⟩:=Jc0 h.row y
   exact qcb x
theorem DkAt.size(h:DkAt w F g N n f fl ws):1<=N/\N<=4096:=by obtain⟨_,_,_,_,z,_⟩:=h.ex;exact z.size
theorem DkAt.chg(h:DkAt w F g N n f fl ws)(hc:Chg G w w')(hd:Dj F G):DkAt w' F g N n f fl ws:=by
 obtain⟨B,mn,ml,vW,y,x,z⟩:=h.ex;exact⟨⟨B,mn,ml,vW,y.chg hc (fun b hb=>hd b (z b hb)),qax x hc.size,z⟩,h.ins.up hc.size,h.ws,h.now⟩
theorem DkAt.below(h:DkAt w F g N n f fl ws)(hb:Below w.heap.size w w'):DkAt w' F g N n f fl ws:=h.chg (G:=fun _=>False) (Chg.of_below hb) (fun _ _ x=>x)
theorem DkAt.sub(h:DkAt w F g N n f fl ws)(hs:∀b,F b ->G b)(hi:Ins G w):DkAt w G g N n f fl ws:=by
 obtain⟨B,mn,ml,vW,z,y,x⟩:=h.ex;exact⟨⟨B,mn,ml,vW,z,y,fun b hb=>hs b (x b hb)⟩,hi,h.ws,h.now⟩
theorem DkAt.read_size(h:DkAt w F g N n f fl ws)(k:Int):(Jav f k).size=256:=by
 unfold Jav;cases e:f k with
 | none=>show(strOf (zeros 256)).size=256;rw[Jaa,Jbr]
 | some s=>exact h.now k s e
theorem Jjv(h:DkAt w F g N n f fl ws)(k:Nat)(hk:k<N):
  Cs 27 #[g,(k:Int)] w (RB w (.tuple #[(Jav f k),(0:Int)])):=by
 obtain⟨B,mn,ml,vW,z,_⟩:=h.ex;exact J7v w z k hk
theorem Jmo(h:DkAt w F g N n f fl ws):Cs 36 #[g] w (RS w (N:Int)):=by
 obtain⟨B,mn,ml,vW,z,_⟩:=h.ex;exact Jwj w z
theorem Jzg(h:DkAt w F g N n f fl ws)(k:Nat)(hk:k<N)(s:ByteArray)(hs:s.size=256)(hn:n<=1000000)(hws:ws.length<=1000000):
  Cs 28 #[g,(k:Int),s] w fun e w'=>e= .returned (0:Int)/\DkAt w' (grow F w w') g N (n+1) (setS f k s) fl (ws++[((k:Int),s)])/\Chg F w w':=by
 obtain⟨B,mn,ml,vW,r,v,u⟩:=h.ex;refine(J4l w r k hk s hs hn hws v).mono ?_;rintro e w' ⟨rfl,vW',t,z,q⟩;refine⟨rfl,⟨⟨B,mn,ml,vW',t,qax v z.size,fun b hb=> ?_⟩,h.ins.grow z.size,?_,h.now.set hs⟩,z.sub u⟩
 · rcases q b hb with x | x
   · exact .inl (u b x)
   · exact .inr ⟨x,t.ins b hb⟩
 · intro x p
   rcases qbe.1 p with y | y
   · exact h.ws x y
   · rw[qa1.1 y];exact⟨by show(0:Int)<=(k:Int);omega,by show(k:Int)<N;omega,hs⟩
theorem Jzh(h:DkAt w F g N n f fl ws)(hn:n+ws.length<=1000000):
  Cs 161 #[g] w fun e w'=>e= .returned (0:Int)/\DkAt w' (grow F w w') g N (n+ws.length) f (Jib fl ws) []/\Chg F w w':=by
 obtain⟨B,mn,ml,vW,v,u,z⟩:=h.ex;have s:=v.size.2;refine(J4m w v (fun x hx=> ?_) hn).mono ?_
 · obtain⟨a,b,c⟩:=h.ws x hx
   refine⟨?_,by unfold maxLen;omega⟩;have e1:IntKind.i64.min= -9223372036854775808/\IntKind.i64.max=9223372036854775807:=by decide
   simp[Lit.wf,e1.1,e1.2];omega
 · rintro e w' ⟨rfl,t,y⟩
   refine⟨rfl,⟨⟨B,mn,ml,_,t,qax u y.size,fun b hb=> ?_⟩,h.ins.grow y.size,by simp,h.now⟩,y.sub z⟩;rcases hb with x | x | x | x
   · exact .inl (z b (.inl x))
   · exact .inl (z b (.inr (.inl x)))
   · exact .inl (z b (.inr (.inr (.inl x))))
   · cases x
theorem J7x(N:Nat)(w:World)(h1:1<=N)(h2:N<=4096):
  Cs 11 #[(N:Int)] w fun e w'=>∃g,e= .returned (g:Nat)/\DkAt w' (made w w') g N 0 (fun _=>none) (fun _=>none) []/\Below w.heap.size w w':=by
 refine(J7w N w h1 h2).mono ?_;rintro e w' ⟨g,mn,ml,rfl,z,y,x⟩;exact⟨g,rfl,⟨⟨_,mn,ml,_,z,y.size,fun b hx=>⟨x b hx,z.ins b hx⟩⟩,Ins.made,by simp,Jsn.none⟩,y⟩
end
structure DkW (w0:World) (F:Nat ->Prop) (w:World) (g N n:Nat) (f fl:Int ->Option ByteArray) (ws:List (Int×ByteArray)):Prop where
 at_:DkAt w (grow F w0 w) g N n f fl ws
 chg:Chg F w0 w
 ins:Ins F w0
section
variable {w0 w w':World} {F G:Nat ->Prop} {g N n n':Nat} {f f' fl fl':Int ->Option ByteArray} {ws ws':List (Int×ByteArray)}
theorem DkW.start(h:DkAt w F g N n f fl ws):DkW w F w g N n f fl ws:=⟨h.sub (fun _=> .inl) (h.ins.grow (qab _)),Chg.refl _ _,h.ins⟩
theorem DkW.mk'(h:DkAt w F g N n f fl ws)(k:DkAt w' (grow F w w') g N n' f' fl' ws')(hc:Chg F w w'):DkW w F w' g N n' f' fl' ws':=⟨k,hc,h.ins⟩
theorem DkW.trans(h:DkW w0 F w g N n f fl ws)(k:DkW w (grow F w0 w) w' g N n' f' fl' ws'):DkW w0 F w' g N n' f' fl' ws':=
 ⟨by have:=k.at_;rwa [grow_grow F h.chg.size k.chg.size] at this,h.chg.seq k.chg,h.ins⟩
theorem DkW.below(h:DkW w0 F w g N n f fl ws)(hb:Below w.heap.size w w'):DkW w0 F w' g N n f fl ws:=
 ⟨(h.at_.below hb).sub (fun _ x=>Jcj x hb.size) (h.ins.grow (qax h.chg.size hb.size)),h.chg.then_below hb,h.ins⟩
theorem DkW.write(h:DkW w0 F w g N n f fl ws)(k:Nat)(hk:k<N)(s:ByteArray)(hs:s.size=256)(hn:n<=1000000)(hws:ws.length<=1000000):
  Cs 28 #[g,(k:Int),s] w fun e w'=>e= .returned (0:Int)/\DkW w0 F w' g N (n+1) (setS f k s) fl (ws++[((k:Int),s)]):=by
 refine(Jzg h.at_ k hk s hs hn hws).mono ?_;rintro e w' ⟨rfl,z,y⟩;exact⟨rfl,h.trans (DkW.mk' h.at_ z y)⟩
theorem DkW.flush(h:DkW w0 F w g N n f fl ws)(hn:n+ws.length<=1000000):
  Cs 161 #[g] w fun e w'=>e= .returned (0:Int)/\DkW w0 F w' g N (n+ws.length) f (Jib fl ws) []:=by
 refine(Jzh h.at_ hn).mono ?_;rintro e w' ⟨rfl,z,y⟩;exact⟨rfl,h.trans (DkW.mk' h.at_ z y)⟩
theorem DkW.back{w1:World}(h:DkW w1 F w' g N n f fl ws)(hb:Below w0.heap.size w0 w1)(hi:Ins F w0):DkW w0 F w' g N n f fl ws:=
 ⟨h.at_.sub (fun _ x=>Jks x hb.size) (hi.grow (qax hb.size h.chg.size)),Chg.after_below hb h.chg (fun _ x=> .inl x),hi⟩
theorem Ins.not(h:Ins F w): ¬ F w.heap.size:=fun x=>by have:=h _ x;omega
end
structure Bo (w:World) (g:Nat) (cs:Array Value):Prop where
 ex:∃T more,Bx w g T (cs++more)
section
variable {w w':World} {g:Nat} {cs:Array Value} {F:Nat ->Prop}
theorem Bo.of{T:TypeId}(h:Bx w g T cs):Bo w g cs:=⟨T,#[],by simpa using h⟩
theorem Bo.lt(h:Bo w g cs):g<w.heap.size:=by obtain⟨T,more,h⟩:=h.ex;exact h.lt
theorem Bo.at_(h:Bo w g cs)(i:Nat){v:Value}(e:cs[i]? =some v):w.cell? ⟨g,i,none⟩=some v:=by
 obtain⟨T,more,h⟩:=h.ex;have z:i<cs.size:=(qc1.1 e).1;exact h.at_ i (by rw[Array.getElem?_append_left z];exact e)
theorem Bo.free(h:Bo w g cs)(i:Nat):w.frozen? ⟨g,i,none⟩=false:=by obtain⟨T,more,h⟩:=h.ex;exact h.free i
theorem Bo.below(h:Bo w g cs)(hb:Below w.heap.size w w'):Bo w' g cs:=by obtain⟨T,more,h⟩:=h.ex;exact⟨T,more,h.below hb⟩
theorem Bo.alloc(h:Bo w g cs)(o:Obj):Bo (w.alloc o) g cs:=h.below ((qaa _ _).alloc (qab _) o)
theorem Bo.drew(h:Bo w g cs):Bo w.drew g cs:=h.below ((qaa _ _).drew)
theorem Bo.set(h:Bo w g cs)(i:Nat)(u:Value)(hi:i<cs.size:=by first | decide | simp):Bo (w.setCell ⟨g,i,none⟩ u) g (cs.setIfInBounds i u):=by
 obtain⟨T,more,h⟩:=h.ex;refine⟨T,more,?_⟩;have:=h.set i u
 rwa [Array.setIfInBounds_append_left hi] at this
theorem Bo.grown(h:Bo w g cs){row:Option Nat}(hg:w.grownBy w' row)(hne:some g≠row):Bo w' g cs:=by obtain⟨T,more,h⟩:=h.ex;exact⟨T,more,h.grown hg hne⟩
theorem Bo.chg(h:Bo w g cs)(hc:Chg F w w')(hn: ¬ F g):Bo w' g cs:=by obtain⟨T,more,h⟩:=h.ex;exact⟨T,more,h.chg hc hn⟩
def Tl (g:Nat) (w w':World):Prop:=∀T cs,Bx w g T cs ->∃cs':Array Value,Bx w' g T cs'/\cs'.size=cs.size/\∀k:Nat,14<=k ->cs'[k]? =cs[k]?
theorem Tl.refl(g:Nat)(w:World):Tl g w w:=fun _ cs h=>⟨cs,h,rfl,fun _ _=>rfl⟩
theorem Tl.of_below(g:Nat)(hb:Below w.heap.size w w'):Tl g w w':=fun _ cs h=>⟨cs,h.below hb,rfl,fun _ _=>rfl⟩
theorem Tl.of_chg(hc:Chg F w w')(hn: ¬ F g):Tl g w w':=fun _ cs h=>⟨cs,h.chg hc hn,rfl,fun _ _=>rfl⟩
theorem Tl.set(g:Nat)(w:World)(k:Nat)(u:Value)(hk:k<14):Tl g w (w.setCell ⟨g,k,none⟩ u):=fun _ cs h=>⟨_,h.set k u,by simp,fun j hj=>by rw[Array.getElem?_setIfInBounds_ne (by omega)]⟩
theorem Tl.trans{w1:World}(h:Tl g w w1)(k:Tl g w1 w'):Tl g w w':=fun T cs hx=>by
 obtain⟨c1,z,s1,e1⟩:=h T cs hx;obtain⟨c2,y,s2,e2⟩:=k T c1 z;exact⟨c2,y,s2.trans s1,fun j hj=>(e2 j hj).trans (e1 j hj)⟩
theorem Bo.blk(h:Bo w g cs):∃cs' T,w.heap[g]? =some (.cells cs' T (0,0)):=by obtain⟨T,more,h⟩:=h.ex;exact⟨_,_,h.blk⟩
end
structure Jd3 (N C B D R:Nat):Prop where
 n:64<=N/\N<=4096
 c:C=N / 200+10
 b:B=28+N / 200
 d:D=38+2*(N / 200)
 r:R=(N - D) / 2
theorem Jd3.bd{N C B D R:Nat}(h:Jd3 N C B D R):10<=C/\C<=30/\B=18+C/\D=18+2*C/\D<=N/\2*R<=N - D:=by
 obtain⟨z,y,x,w,v⟩:=h;omega
abbrev Jdm (N C B D R:Nat) (d:Addr) (gen id mp bk:Nat) (lg:Option Addr) (bad:Int):Array Value:=
 #[(N:Int),(2:Int),(18:Int),(B:Int),(C:Int),(D:Int),(R:Int),.pointer (some d),.int .u64 (gen:Int),.int .u64 (id:Int),.map (some mp),bk,.pointer lg,(bad:Int)]
def Jb5 (B gen:Nat):Nat:=if gen % 2=1 then 18 else B
section
variable {w:World} {g N C B D R gen id mp bk:Nat} {d:Addr} {lg:Option Addr} {bad:Int}
theorem Jur(k:Nat)(h:Bo w g (Jdm N C B D R d gen id mp bk lg bad)):
  Cs 211 #[g,.int .u64 (k:Int)] w (RS w (Jb5 B k:Int)):=by
 have x2:=h.at_ 2 (v:= (18:Int)) rfl;have x3:=h.at_ 3 (v:= (B:Int)) rfl;clear h;by_cases y:k % 2=1
 · have z:=zI (show Jb5 B k=18 from qa0 y)
   have d1:((k:Int) % 2==1)=true:=by rw[beq_iff_eq];omega
   go_enter Tryz.func211,Tryz.ntmps211;go_wp2_with fail
   go_ret;rw[z.out];exact⟨rfl,rfl⟩
 · have z:=zI (show Jb5 B k=B from qay y)
   have d1:((k:Int) % 2==1)=false:=by rw[qat];omega
   go_enter Tryz.func211,Tryz.ntmps211;go_wp2_with fail
   go_ret;rw[z.out];exact⟨rfl,rfl⟩
theorem Jjw(h:Bo w g (Jdm N C B D R d gen id mp bk lg bad)):
  Cs 76 #[g] w fun e w'=>e= .returned false/\w=w':=by
 have x7:=h.at_ 7 (v:= .pointer (some d)) rfl;clear h;go_enter Tryz.func76,Tryz.ntmps76;go_wp2_with fail
 go_ret;exact⟨rfl,rfl⟩
end
theorem J4n(k:Nat)(w:World)(h:k<5):Cs 221 #[(k:Int)] w (RS w (.string ⟨#[108,105,118,101]⟩)):=by
 have d1:decide ((5:Int)<=(k:Int))=false:=qae (by omega);go_enter Tryz.func221,Tryz.ntmps221;go_wp2_with fail
 go_ret;exact⟨rfl,rfl⟩
theorem J7y(w:World):Cs 215 #[.agg #[ByteArray.empty,()]] w fun e w'=>e= .returned true/\Below w.heap.size w w':=by
 have v:=(qaa w.heap.size w).alloc (qab _) (.cells #[ByteArray.empty,()] 101);have y:∀W,Tis W none 0 []:=fun W=>⟨Sl.nil _ _,rfl,by unfold maxLen;omega,by simp⟩;have t:=zI (fun W=>Py.same_any ByteArray.empty ByteArray.empty none none 0 0 0 0 [] [] W (y W) (y W));have u:=zI v;clear v y;go_enter Tryz.func215,Tryz.ntmps215;go_wp2_with fail
 refine(t.out _).mono ?_;rintro e w1 ⟨rfl,z⟩;have x:=zI (u.out.trans (z.mono u.out.size));have s:=zI (show Py.sameP ByteArray.empty ByteArray.empty [] []=true from Py.sameP_iff.2 ⟨rfl,rfl⟩);rw[s.out];clear z;go_wp2_with fail
 go_ret;exact⟨rfl,x.out⟩
open Go.ChangeAt Go.ChangeShapes Go.Deep Go.WideShapes
def Rch.all (r:Rch):List Int:=(List.range r.ts.length).map r.from_
theorem Rch.all_len(r:Rch):r.all.length=r.ts.length:=by simp[Rch.all]
theorem J7z(A:Option Addr)(n c:Nat)(B:Option Addr)(m d:Nat)(r:Rch)(w:World)(h:Jem w A n B m r)(hn:n<=1000):
  Cs 374 #[rchV r.now r.nm A n c B m d] w fun e w'=>∃v,e= .returned v/\w'.ownsRow w.heap.size 3 1 v n (r.all.map (Value.int .i64))/\Below w.heap.size w w':=by
 have N:=zI h;have M:=zI h.ts.len;have o:=(qaa w.heap.size w).alloc (qab _) (.cells #[(r.now:Int),r.nm,.slice A n c,.slice B m d] 161);have l:=Bx.new w 161 #[(r.now:Int),r.nm,.slice A n c,.slice B m d];have Y:=zI o;have W:=zI l;clear h o l;go_enter Tryz.func374,Tryz.ntmps374;go_wp2_with fail
 go_loopw [3,9] (fun v i wr=>∃k:Nat,k<=n/\i= .int .i64 (k:Int)/\wr.ownsRow w.heap.size 3 1 v k (((List.range k).map r.from_).map (Value.int .i64))/\Bx wr w.heap.size 161 #[(r.now:Int),r.nm,.slice A n c,.slice B m d]/\Below w.heap.size w wr) (fun _ i _=>n - (intOf i).toNat)
 case atStart=>exact⟨0,qaq _,rfl,qaz _ _ _ _,W.out,Y.out⟩
 case round=>
  obtain⟨k,H,rfl,y,t,j⟩:=hrel;by_cases V:k<n
  · have L:=zI (Jg8 A n c B m d r k wr (N.out.below j) (by omega) V)
    have U:=zI (show((List.range k).map r.from_).map (Value.int .i64)++[Value.int .i64 (r.from_ k)]=((List.range (k+1)).map r.from_).map (Value.int .i64) from by rw[qbw,qbg,qbg];rfl);generalize r.from_ k=z at*;have T:=zI (show ∀u∈[Value.int .i64 z],u.oneCell'=true from by intro u K;rw[qa1.1 K];rfl);have J:=zI (show k+1<=1000000 from by omega);have s0:=t.at_ 0 rfl;have s1:=t.at_ 1 rfl;have s2:=t.at_ 2 rfl;have s3:=t.at_ 3 rfl;have I:=zI t;have S:=zI y;have Z:=zI j;clear y t j;go_wp2_with fail
    refine L.out.mono ?_;rintro e w2 ⟨rfl,s⟩;have x:=s.alloc s.size (.cells #[(z:Int)] 3);have q:=zI (Jaf S.out x);have g:=zI (I.out.below x);have p:=zI (Z.out.trans (x.mono Z.out.size));have R:=zI (Sl.new w2 3 w2.heap.size [(z:Int)] #[(z:Int)] rfl rfl);clear s x s0 s1 s2 s3;go_wp2_with (at_builtin;refine Jyd rfl _ _ rfl q.out rfl (some ⟨w2.heap.size,0,none⟩) 1 1 _ rfl rfl R.out T.out J.out p.out.size ?_;intro A' c' w5 f b)
    have P:=Jbd q.out b p.out p.out.size;rw[U.out] at f;have O:=g.out.grown b (g.out.not_row q.out (by decide));go_roundw
    case rel=>exact⟨k+1,by omega,by go_num,f,O,P⟩
    case measure=>simp[intOf];omega
  · have a:k=n:=by omega
    have U:=zI (show((List.range k).map r.from_)=r.all from by unfold Rch.all;rw[M.out,a]);rw[U.out] at y;subst a;have S:=zI y;have Z:=zI j;obtain⟨Av,cv,rfl,_⟩:=Jao y;clear y t j;go_wp2_with fail
    go_ret;exact⟨_,rfl,S.out,Z.out⟩
end Go.Proofs.YtglmhddbhhcjdaaGreatDoor
namespace Go.Proofs.YtglmhddbhhcjdaaGreatDoor
open Go.RowKit
def gB:Nat:=3+1
theorem J9s:0<gB:=by decide
structure Glo (w:World):Prop where
 m:∃m:Int,w.cell? ⟨0,0,none⟩=some (.int .i64 m)
 tab:Lib.TabIs Tryz.prog w "internal/strconv.uint64pow10" .u64 Lib.pow10Tab
theorem Glo.of_eq{w w':World}(h:Glo w)(he:∀b,b<w.heap.size ->b<gB ->w'.heap[b]? =w.heap[b]?)(hg:∀g,Tryz.prog.globalNamed "internal/strconv.uint64pow10"=some g ->g<gB):Glo w':=by
 refine⟨?_,?_⟩
 · obtain⟨m,x⟩:=h.m
   have v:=block_lt_of_cell x;exact⟨m,(qbk (w:=w) (a:=⟨0,0,none⟩) (he 0 v J9s)).trans x⟩
 · have z:=h.tab
   unfold Lib.TabIs at z ⊢;unfold World.var? at z ⊢;cases hn:Tryz.prog.globalNamed "internal/strconv.uint64pow10" with
   | none=>rw[hn] at z;simp at z
   | some g=>
     rw[hn] at z;simp only[Option.bind_some] at z ⊢
     have y:g<w.heap.size:=by
      cases hb:w.heap[g]? with
      | none=>rw[hb] at z;simp at z
      | some o=>exact(qc1.1 hb).1
     rw[he g y (hg g hn)];exact z
theorem Jzi:∀g,Tryz.prog.globalNamed "internal/strconv.uint64pow10"=some g ->g<gB:=by
 intro g z;have h:(Tryz.prog.globalNamed "internal/strconv.uint64pow10").all (fun g=>decide (g<gB))=true:=by kernel_rfl
 rw[z] at h
 simpa using h
theorem Glo.below{w w':World}(h:Glo w)(hb:Below w.heap.size w w'):Glo w':=h.of_eq (fun b hlt _=>hb.block b hlt) Jzi
theorem Glo.chg{w w':World}{F:Nat ->Prop}(h:Glo w)(hc:Chg F w w')(hF:∀b,F b ->gB<=b):Glo w':=h.of_eq (fun b hlt h2=>hc.block b hlt (fun hf=>by have:=hF b hf;omega)) Jzi
theorem Glo.low{w:World}(h:Glo w):gB<=w.heap.size:=by
 have z:=h.tab;unfold Lib.TabIs World.var? at z;have y:Tryz.prog.globalNamed "internal/strconv.uint64pow10"=some 3:=by kernel_rfl
 rw[y] at z;simp only[Option.bind_some] at z;cases hb:w.heap[3]? with
 | none=>rw[hb] at z;simp at z
 | some o=>exact(qc1.1 hb).1
theorem Jqe(p:Addr)(n gen:Nat)(w:World)(hn:1<=n/\n<=4096)(hg:1<=gen):
  Cs 222 #[.pointer (some p),(n:Int),.int .u64 (gen:Int)] w fun e w'=>e= .returned true/\w=w':=by
 have d1:decide ((0:Int)<(gen:Int))=true:=qaj (by omega);have d1':decide (0<gen)=true:=qaj (by omega);have d2:decide ((1:Int)<=(n:Int))=true:=qaj (by omega);have d2':decide (1<=n)=true:=qaj (by omega);have d3:decide ((n:Int)<=4096)=true:=qaj (by omega);have d3':decide (n<=4096)=true:=qaj (by omega);go_enter Tryz.func222,Tryz.ntmps222;go_wp2;go_ret;exact⟨rfl,rfl⟩
def Jso (w:World) (g:Nat) (d:Addr) (from_ n gen:Nat):Prop:=
 Bx w g 286 #[.pointer (some d),(from_:Int),(n:Int),.int .u64 (gen:Int),(0:Int),(0:Int),(0:Int)]
theorem J70(p:Addr)(from_ n gen:Nat)(w:World)(hn:1<=n/\n<=4096)(hg:1<=gen):
  Cs 249 #[.pointer (some p),(from_:Int),(n:Int),.int .u64 (gen:Int)] w fun e w'=>∃g,e= .returned (.tuple #[(g:Nat),(0:Int)])/\Jso w' g p from_ n gen/\w.heap.size<=g/\Below w.heap.size w w':=by
 have y:=zI (Jqe p n gen w hn hg);have z:=(qaa w.heap.size w).alloc (qab _) (.cells #[.pointer (some p),(from_:Int),(n:Int),.int .u64 (gen:Int),(0:Int),(0:Int),(0:Int)] 286);have x:=zI z;clear z hn hg;go_enter Tryz.func249,Tryz.ntmps249;go_wp2_with fail
 refine y.out.mono ?_;rintro e w1 ⟨rfl,v⟩;subst v;go_wp2_with fail
 go_ret2;exact⟨w.heap.size,rfl,Bx.new w _ _,qab _,x.out⟩
