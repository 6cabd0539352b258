/- Laws that the walk of the last text wants. -/
import Derived.Test.YtglmhddbhhcjdaaGreatDoorC9
set_option maxRecDepth 100000
set_option linter.unusedSimpArgs false
set_option maxHeartbeats 4000000
namespace Go.Proofs.YtglmhddbhhcjdaaGreatDoor
open Go.RowKit Go.Maps
open Classical in
noncomputable def pdOf (p:ByteArray ->Int ->Bool) (kl:Lit) (_:DataW Unit):Bool:=decide (∃s n,s.size<=maxLen/\(Lit.int .i64 n).wf=true/\kl=klit s n/\p s n=true)
open Classical in
theorem Jym(p:ByteArray ->Int ->Bool){s:ByteArray}{n:Int}(hs:s.size<=maxLen)(hn:(Lit.int .i64 n).wf=true)(d:DataW Unit):pdOf p (klit s n) d=p s n:=by
 unfold pdOf;cases hp:p s n
 · apply qae
   rintro⟨t,m,z,y,e,h⟩;obtain⟨rfl,rfl⟩:=Jtp hs hn z y e;rw[hp] at h;cases h
 · exact qaj ⟨s,n,hs,hn,rfl,hp⟩
theorem Jpv(key:Value)(kl:Lit)(h:keyOf Tryz.prog 289 key=some kl):∃x:ByteArray×Int,key=Jcp x.1 x.2:=by
 obtain⟨s,n,rfl,_⟩:=Jry h;exact⟨(s,n),rfl⟩
theorem J6k(v:Value)(y:DataW Unit×List MemPlace)(h:Jc3 v=some y):∃a:Ag,v=a.val:=by
 obtain⟨a,rfl,_⟩:=Jip h;exact⟨a,rfl⟩
theorem Jl0(p:ByteArray ->Int ->Bool)(g:Nat)(cb:Array Value)(b n:Nat)(D:DataW Unit)(w:World)(eg:∀args w,(callFunc g args).run Tryz.prog w= .ok (.enter g args) w)(hown:w.ownsMap Tryz.prog 289 Jc3 b n D)(hdel:∀ (W:World) (s:ByteArray) (m:Int) (a:Ag),w.grownBy W (some b) ->s.size<=maxLen ->(Lit.int .i64 m).wf=true ->Cs g (#[Jcp s m,a.val]++cb) W fun e w'=>e= .returned (p s m)/\W.grownBy w' none):
  Cs 263 #[.map (some b),.func (.func g) #[] cb] w fun e w'=>e= .returned (.tuple #[])/\w'.ownsMap Tryz.prog 289 Jc3 b n (Lib.deleteFuncD (pdOf p) D)/\w.grownBy w' (some b):=by
 obtain⟨es0,rfl,i,l⟩:=hown.entries Jbq;have L:Aside _:=hdel;clear hdel;go_enter Tryz.func263,Tryz.ntmps263;go_wp2_with (at_range;refine wpList_range_own _ rfl _ 255 rfl 289 140 Jbq Tryz.underlying255 Jc3 b n _ rfl hown ?_;intro w0 h V K)
 go_frame
 go_loopw [8] (fun _ wr=>∃ (left:Lit ->Bool) (cnt:Nat),wr.ranges Tryz.prog 289 Jc3 b w.heap.size n (Fk (pdOf p) es0 left) left cnt/\w.grownBy wr (some b))
  (fun _ wr=>wr.rangeLeft b w.heap.size)
 case atStart=>exact⟨_,_,by rw[Fk_start l];exact h,V.but _⟩
 case round=>
  obtain⟨left,cnt,q,f⟩:=hrel;go_wp2_with (at_next;refine wpList_next_ranges _ rfl _ rfl 289 Jbq Jc3 (fun x:ByteArray×Int=>Jcp x.1 x.2) Ag.val Jpv J6k b w.heap.size n _ _ _ rfl q ?_ ?_)
  · intro _ U
    go_wp2;go_end0
    exact⟨rfl,by rw[<- Fk_end U];exact q.owns,f⟩
  · intro s m c kl d ps w1 cnt1 y Z F hat u T S R J
    obtain⟨s',m',e1,rfl,N,M⟩:=Jry y;have e2:s=s'/\m=m':=(by simpa[Jcp] using e1);obtain⟨rfl,rfl⟩:=e2;clear e1;have Y:=f.andThen S (fun j hj=>by cases hj;exact Or.inl (qab _));have t:=(Y.andThen (qbl w1 (.cells #[s,(m:Int)] 289) none) (fun j hj=>by cases hj)).andThen (qbl _ (.cells #[(c.c:Int),(c.hi:Int),.int .u64 c.lo,(c.mn:Int),(c.mx:Int)] 140) none) (fun j hj=>by cases hj);have P:=L.out _ s m c t N M;have o:=(u.alloc (.cells #[s,(m:Int)] 289)).alloc (.cells #[(c.c:Int),(c.hi:Int),.int .u64 c.lo,(c.mn:Int),(c.mx:Int)] 140);have I:=u.owns.lt;have H:=u.lt;have O:=zI (Jym p N M d);cases hp:p s m<;>rw[hp] at P O
    · -- it stays
      go_wp2_with (go_at_fn g;refine P.mono ?_;rintro e w2 ⟨rfl,z⟩)
      have v:=o.kept z (by simp) (by simp);go_roundw
      case rel=>exact⟨_,cnt1,by rw[<- Fk_stays i (Jbq.key y) Z O.out hat];exact v,t.andThen z (fun j hj=>by cases hj)⟩
      case measure=>rw[v.left_eq,q.left_eq];exact T
    · -- it goes
      go_wp2_with (first
       | (go_at_fn g;refine P.mono ?_;rintro e w2 ⟨rfl,z⟩
          have v:=o.kept z (by simp) (by simp);have c0:=z.cell (show((w1.alloc (.cells #[s,(m:Int)] 289)).alloc (.cells #[(c.c:Int),(c.hi:Int),.int .u64 c.lo,(c.mn:Int),(c.mx:Int)] 140)).cell? ⟨w1.heap.size,0,none⟩=some (.string s) from by simp[go_sem]) (by simp);have c1:=z.cell (show((w1.alloc (.cells #[s,(m:Int)] 289)).alloc (.cells #[(c.c:Int),(c.hi:Int),.int .u64 c.lo,(c.mn:Int),(c.mx:Int)] 140)).cell? ⟨w1.heap.size,1,none⟩=some (.int .i64 m) from by simp[go_sem]) (by simp);rw[R] at c0 c1)
       | (at_delete;refine wpList_delete_ranges _ rfl _ _ 255 289 rfl 140 Jbq Tryz.underlying255 Jc3 b w.heap.size n _ _ _ rfl v _ _ rfl y ?_;intro w3 cnt3 r G k;go_frame))
      rw[strike_twice] at r;go_roundw
      case rel=>exact⟨_,cnt3,by rw[<- Fk_struck i (Jbq.key y) Z O.out hat];exact r,(t.andThen z (fun j hj=>by cases hj)).andThen k.grown (fun j hj=>by cases hj;exact Or.inr rfl)⟩
      case measure=>rw[r.left_eq,q.left_eq];omega
theorem Jyn(p:ByteArray ->Int ->Bool)(g:Nat)(cb:Array Value)(s:ByteArray)(m:Int)(a:Ag)(q:Nat)(w:World)(eg:∀args w,(callFunc g args).run Tryz.prog w= .ok (.enter g args) w)(hq:w.cell? ⟨q,0,none⟩=some (.func (.func g) #[] cb))(hso:∀W:World,w.grownBy W none ->Cs g (#[Jcp s m]++cb) W fun e w'=>e= .returned (p s m)/\W.grownBy w' none):
  Cs 264 #[Jcp s m,a.val,q] w fun e w'=>e= .returned (p s m)/\w.grownBy w' none:=by
 have z:=qba w _ hq;simp only at z;have x:=((qbl w (.cells #[s,(m:Int)] 289) none)).andThen (qbl _ (.cells #[(a.c:Int),(a.hi:Int),.int .u64 a.lo,(a.mn:Int),(a.mx:Int)] 140) none) (fun j hj=>by cases hj);have v:=hso _ x;clear hso;go_enter Tryz.func264,Tryz.ntmps264;go_wp2_with (go_at_fn g;refine v.mono ?_;rintro e w2 ⟨rfl,y⟩)
 go_ret;exact⟨rfl,x.andThen y (fun j hj=>by cases hj)⟩
theorem Jyo(p:ByteArray ->Int ->Bool)(f:Nat)(cb:Array Value){g mm:Nat}{ev:Int}{l:List Rc}(w:World)(h:Jan w g mm ev l)(hfew:l.length<1000000)(ef:∀args w,(callFunc f args).run Tryz.prog w= .ok (.enter f args) w)(hso:∀ (W:World) (s:ByteArray) (m:Int),w.grownBy W (some mm) ->s.size<=maxLen ->(Lit.int .i64 m).wf=true ->Cs f (#[Jcp s m]++cb) W fun e w'=>e= .returned (p s m)/\W.grownBy w' none):
  Cs 181 #[(g:Nat),.func (.func f) #[] cb] w fun e w'=>e= .returned (l.length - (l.filter fun r=> !p r.nm r.st).length:Int)/\Jan w' g mm ev (l.filter fun r=> !p r.nm r.st)/\w.grownBy w' (some mm):=by
 have v:w.grownBy (w.alloc (.cells #[.func (.func f) #[] cb] 290)) none:=qbl _ _ _;have t:=h.grown v (by simp) (by simp);obtain⟨c0,c1⟩:=t.cells;obtain⟨D,y,z⟩:=t.map.own;have d:=y.lt;have o:=h.map.lt
 have n:∀ty,(Builtin.len_ #[255] ty #[.map (some mm)]).run Tryz.prog (w.alloc (.cells #[.func (.func f) #[] cb] 290))= .ok (l.length:Int) (w.alloc (.cells #[.func (.func f) #[] cb] 290)):=fun ty=>by
  rw[y.len Tryz.underlying255 ty,z.size]
 have c:=qdh (fun r:Rc=> !p r.nm r.st) l
 have b:=Jl0 p 264 #[w.heap.size] mm l.length D _ (enters_of Tryz.func264 (by kernel_rfl) rfl) y (fun W s m a hg hs hm=>
  Jyn p f cb s m a w.heap.size W ef (hg.cell (show(w.alloc (.cells #[.func (.func f) #[] cb] 290)).cell? ⟨w.heap.size,0,none⟩=some (.func (.func f) #[] cb) from by simp[go_sem]) (by simp;omega))
   (fun W' hg'=>hso W' s m ((v.but (some mm)).andThen (hg.andThen hg' (fun j hj=>by cases hj)) (fun j hj=>by cases hj;exact Or.inr rfl)) hs hm))
 have k:=z.drop (p:=fun r=>p r.nm r.st) (fun r hr=>Jym p (z.ok r hr).nm (z.ok r hr).st _);clear hso;go_enter Tryz.func181,Tryz.ntmps181
 go_wp2_with (first
  | (go_at_call 203;refine(Jkk t).mono ?_;rintro e w1 ⟨rfl,rfl⟩)
  | (go_at_call 263;refine b.mono ?_;rintro e w2 ⟨rfl,x,u⟩
     have i:=t.turned u (MapAt.mk' x k);obtain⟨d0,d1⟩:=i.cells
     have q:∀ty,(Builtin.len_ #[255] ty #[.map (some mm)]).run Tryz.prog w2= .ok ((l.filter fun r=> !p r.nm r.st).length:Int) w2:=fun ty=>by
      rw[x.len Tryz.underlying255 ty,k.size]))
 go_ret;exact⟨rfl,i,(v.but (some mm)).andThen u (fun j hj=>by cases hj;exact Or.inr rfl)⟩
theorem Jn2(b:Int){g mm:Nat}{ev:Int}{l:List Rc}(w:World)(h:Jan w g mm ev l)(hfew:l.length<1000000):
  Cs 107 #[(g:Nat),(b:Int)] w fun e w'=>e= .returned (l.length - (l.filter fun r=> !decide (r.st<b)).length:Int)/\Jan w' g mm ev (l.filter fun r=> !decide (r.st<b))/\w.grownBy w' (some mm):=by
 have z:w.grownBy (w.alloc (.cells #[(b:Int)] 3)) none:=qbl _ _ _;have v:=h.grown z (by simp) (by simp);have u:=h.map.lt
 have t:=Jyo (fun _ n=>decide (n<b)) 182 #[w.heap.size] _ v hfew (enters_of Tryz.func182 (by kernel_rfl) rfl) (fun W s m hg hs hm=>by
  have q:=hg.cell (show(w.alloc (.cells #[(b:Int)] 3)).cell? ⟨w.heap.size,0,none⟩=some (.int .i64 b) from by simp[go_sem]) (by simp;omega);have y:=qba W _ q;simp only at y;go_enter Tryz.func182,Tryz.ntmps182;go_wp2;go_ret;exact⟨rfl,qbl _ _ _⟩)
 go_enter Tryz.func107,Tryz.ntmps107;go_wp2_with (go_at_call 181;refine t.mono ?_;rintro e w2 ⟨rfl,p,x⟩)
 go_ret;exact⟨rfl,p,(z.but (some mm)).andThen x (fun j hj=>by cases hj;exact Or.inr rfl)⟩
open Go.Shelf
theorem Jeo(r:Rc):r.cells.length=7:=rfl
theorem J3s:(Tryz.prog.info? 142).map (fun i=>(i.zero,i.size,i.bytes))=some (some (.agg #[ByteArray.empty,(0:Int),(0:Int),(0:Int),.int .u64 0,(0:Int),(0:Int)]),7,64):=by kernel_rfl
theorem Jyp(w:World)(cs:Array Value)(T:TypeId):∀j u,cs.toList[j]? =some u ->(w.alloc (.cells cs T)).cell? ((⟨w.heap.size,0,none⟩:Addr).add j)=some u:=by
 intro j u h;rw[Addr.add_lit,qa7,qb4 _ _ j _ _ _ (qci w _)]
 simpa using h
def came (l:List Rc) (left:Lit ->Bool):List Rc:=l.filter fun r=> !left (klit r.nm r.st)
theorem Jv6{D:DataW Unit}{l:List Rc}(h:Rep D l):came l (Maps.has D)=[]:=by
 unfold came;rw[qds];intro r z;rw[h.has (h.ok r z).nm (h.ok r z).st];simp only[Bool.not_eq_true',Bool.not_eq_false];unfold Jiq;rw[List.find?_isSome];exact⟨r,z,by simp⟩
theorem J3t{l:List Rc}{left:Lit ->Bool}(h:∀kl,left kl=false):came l left=l:=by
 unfold came;exact qbx.2 (fun r _=>by rw[h];rfl)
theorem Jyq{D:DataW Unit}{l:List Rc}(h:Rep D l){left:Lit ->Bool}{r0:Rc}(hr:r0∈l)(hl:left (klit r0.nm r0.st)=true):(came l fun z=>left z && !z.sameKey (klit r0.nm r0.st)).Perm (r0::came l left):=by
 obtain⟨a,b,rfl⟩:=List.append_of_mem hr;have y:=h.ord;rw[List.pairwise_append,qa9] at y;obtain⟨_,⟨s,_⟩,u⟩:=y
 have v:∀x∈a++r0::b,x.same r0=false ->(left (klit x.nm x.st) && !(klit x.nm x.st).sameKey (klit r0.nm r0.st))=left (klit x.nm x.st):=by
  intro x w t
  have:(klit x.nm x.st).sameKey (klit r0.nm r0.st)=false:=by
   cases hk:(klit x.nm x.st).sameKey (klit r0.nm r0.st)
   · rfl
   · have e:=(Jge (h.ok x w) (h.ok r0 hr).nm (h.ok r0 hr).st).1 (Jhp.1 hk)
     rw[Rc.same_iff.2 e] at t;cases t
  rw[this];simp
 have e1:came a (fun z=>left z && !z.sameKey (klit r0.nm r0.st))=came a left:=by
  unfold came;apply qb9;intro x w;exact congrArg Bool.not (v x (by simp[w]) (Rc.lt_not_same (u x w r0 (by simp))))
 have e2:came b (fun z=>left z && !z.sameKey (klit r0.nm r0.st))=came b left:=by
  unfold came;apply qb9;intro x w;exact congrArg Bool.not (v x (by simp[w]) (by rw[Rc.same_symm];exact Rc.lt_not_same (s x w)))
 have e3:(klit r0.nm r0.st).sameKey (klit r0.nm r0.st)=true:=Jhp.2 rfl;unfold came at*;rw[qcz,qcz,qbv,qbv,e1,e2,qa0 (by show(!(left _ && !(klit r0.nm r0.st).sameKey (klit r0.nm r0.st)))=true;rw[e3];simp),qay (by rw[hl];simp)];exact List.perm_middle
theorem Jyr{l xs:List Rc}{d':Array Rc}(hl:l.Pairwise Rc.lt)(hx:xs.Perm l)(hp:Go.Sort.PermIn 0 xs.toArray.size xs.toArray d')(hs:Go.Sort.SortedIn (ltOf Jv2) 0 xs.toArray.size d'):d'.toList=l:=by
 obtain⟨x,_,z⟩:=hp;have e1:d'.extract 0 xs.toArray.size=d':=by rw[<- x];exact Array.extract_size
 rw[e1,Array.extract_size] at z;have w:d'.toList.Perm l:=z.trans hx;have t:l.Pairwise (fun r s=>r.same s=false):=hl.imp Rc.lt_not_same;have y:d'.toList.Pairwise (fun r s=>r.same s=false):=(w.pairwise_iff (fun {r s} h=>by rw[Rc.same_symm];exact h)).2 t;refine Jrz ?_ hl w;rw[List.pairwise_iff_getElem] at y ⊢;intro i j q u v;have o:=y i j q u v;have p:=hs i j (qaq _) v (by rw[<- x];simpa using u);simp at q u;rw[getElem!_pos d' i q,getElem!_pos d' j u,Jnx] at p;simp only[Array.getElem_toList] at o ⊢;refine Rc.total ?_ (by rw[Rc.same_symm];exact o);intro n;unfold Rc.lt at n;rw[(Jce _ _ _ _).2 n] at p;cases p
theorem Jys(p:Option Addr)(cap:Nat)(w:World):
  Cs 241 #[.slice p 0 cap,.func (.func 242) #[] #[]] w fun e w'=>e= .returned (.tuple #[])/\w'=w:=
 AnyF.slices_SortFunc_none Tryz.sortR p cap _ w
theorem J3u{w:World}{base:Nat}{v:Value}{l xs:List Rc}(h:w.ownsRow base 142 7 v xs.length (xs.flatMap Rc.cells))(hl:l.Pairwise Rc.lt)(hx:xs.Perm l)(hfew:xs.length<1000000):
  Cs 241 #[v,.func (.func 242) #[] #[]] w fun e w'=>e= .returned (.tuple #[])/\w'.ownsRow base 142 7 v l.length (l.flatMap Rc.cells)/\w.grownBy w' v.ownBlock:=by
 have z:l.length=xs.length:=hx.length_eq.symm;rcases h.2 with⟨rfl,s⟩ | ⟨g,cap,cur,rfl,r,y,q,x,u,p⟩
 · refine(Jys none 0 w).mono ?_
   rintro e w' ⟨rfl,rfl⟩;have e1:xs=[]:=qa5 s;subst e1;have e2:l=[]:=qa5 z;subst e2;exact⟨rfl,h,qcc _ _⟩
 · have o:=Jkp (cs:=Rc.cells) (k:=7) Jeo y p
   have t:=J3f g 0 cap xs.toArray w o (qcb y) (by simp;omega);rw[List.size_toArray] at t;refine t.mono ?_;rintro e w' ⟨rfl,d',n,os,m,j,rfl⟩;have e1:=Jyr hl hx m j;have e2:d'=l.toArray:=by rw[<- e1]
   subst e2;rw[z];exact⟨rfl,Jkq Jeo z r y q x u,Jko _⟩
theorem Jgj{w:World}{B B':Nat}{e:TypeId}{k n:Nat}{v:Value}{xs:List Value}(h:w.ownsRow B e k v n xs)(hb:B'<=B):w.ownsRow B' e k v n xs:=
 ⟨h.1,h.2.imp id fun ⟨g,cap,cur,a,b,c⟩=>⟨g,cap,cur,a,qax hb b,c⟩⟩
theorem Jyt{w:World}{B:Nat}{e:TypeId}{k n:Nat}{v:Value}{xs:List Value}(h:w.ownsRow (B+1) e k v n xs):v.ownBlock=none\/v.ownBlock≠some B:=by
 by_cases e:v.ownBlock=none
 · exact .inl e
 · exact .inr (fun e2=>by have:=(h.lt _ e2).1;omega)
theorem J6l{w:World}{B b:Nat}{e:TypeId}{k n:Nat}{v:Value}{xs:List Value}(h:w.ownsRow B e k v n xs)(hb:b<B):some b≠v.ownBlock:=fun e2=>by have:=(h.lt _ e2.symm).1;omega
theorem Jv7{r:Rc}:∀v∈r.cells,v.oneCell'=true:=Jpl r
theorem Jn3{w:World}{g mm:Nat}{ev:Int}{l:List Rc}(h:Jan w g mm ev l)(hfew:l.length<1000000):
  Cs 158 #[g] w fun e w'=>∃v,e= .returned v/\w'.ownsRow w.heap.size 142 7 v l.length (l.flatMap Rc.cells)/\Below w.heap.size w w':=by
 obtain⟨c0,c1⟩:=h.cells;obtain⟨i0,C,R,P,O⟩:=qb2 J3s;obtain⟨D,o,t⟩:=h.map.own;have B:=o.lt;go_enter Tryz.func158,Tryz.ntmps158
 go_wp2_with (first
  | (go_at_call 203;refine(Jkk h).mono ?_;rintro e w1 ⟨rfl,rfl⟩)
  | (at_range;refine wpList_range_own _ rfl _ 255 rfl 289 140 Jbq Tryz.underlying255 Jc3 mm l.length _ rfl o ?_;intro w0 Z N A))
 go_frame
 go_loopw [3] (fun v wr=>∃ (left:Lit ->Bool) (cnt:Nat) (xs:List Rc),wr.ranges Tryz.prog 289 Jc3 mm w.heap.size l.length D left cnt/\xs.Perm (came l left)/\wr.ownsRow (w.heap.size+1) 142 7 v xs.length (xs.flatMap Rc.cells)/\Below w.heap.size w wr)
  (fun _ wr=>wr.rangeLeft mm w.heap.size)
 case atStart=>exact⟨_,_,[],Z,by rw[Jv6 t],qaz _ _ _ _,(qaa _ _).grown N (qab _) (fun k hk=>by cases hk)⟩
 case round=>
  obtain⟨left,cnt,xs,p,y,z,r⟩:=hrel;have hJ:xs.length<=l.length:=by rw[y.length_eq];exact qdh _ _
  go_wp2_with (at_next;refine wpList_next_ranges _ rfl _ rfl 289 Jbq Jc3 (fun x:ByteArray×Int=>Jcp x.1 x.2) Ag.val Jpv J6k mm w.heap.size l.length _ _ _ rfl p ?_ ?_)
  · intro _ Y
    rw[J3t Y] at y;have hS:=J3u z t.ord y (by omega);have W:=z.lt;clear p Y z;go_wp2_with fail
    refine hS.mono ?_;rintro e w2 ⟨rfl,f,M⟩;go_wp2;go_ret;exact⟨_,rfl,Jgj f (by omega),r.grown M r.size (fun k hk=>by have:=(W k hk).1;omega)⟩
  · intro s m c kl d ps w1 cnt1 V L hv hat n U T S Ha
    obtain⟨r0,K,e1,rfl,e2⟩:=t.next V hv hat;have e3:s=r0.nm/\m=r0.st:=(by simpa[Jcp] using e1);obtain⟨rfl,rfl⟩:=e3
    obtain rfl:c=r0.ag:=by
     obtain⟨a1,a2,a3,a4,a5⟩:=c;cases hc:r0.ag
     rw[hc] at e2
     simpa[Ag.val] using e2
    clear e1 e2;have Jlx:=Jyq t K L;have b:=z.kept T (Jyt z);have E:=n.lt;have u:=r.grown T r.size (fun k hk=>by cases hk;exact qab _);have Hb:=zI S;have J:=zI Jlx;have I:=zI y;have H:=zI U;have G:=zI p;have j:xs.length+1<=maxLen/\(xs.length+1)*64<=140737488355328:=by unfold maxLen;omega
    have F:=Jyp ((w1.alloc (.cells #[r0.nm,(r0.st:Int)] 289)).alloc (.cells #[(r0.ag.c:Int),(r0.ag.hi:Int),.int .u64 r0.ag.lo,(r0.ag.mn:Int),(r0.ag.mx:Int)] 140)) #[r0.nm,(r0.st:Int),(r0.ag.c:Int),(r0.ag.hi:Int),.int .u64 r0.ag.lo,(r0.ag.mn:Int),(r0.ag.mx:Int)] 142;rw[show((w1.alloc (.cells #[r0.nm,(r0.st:Int)] 289)).alloc (.cells #[(r0.ag.c:Int),(r0.ag.hi:Int),.int .u64 r0.ag.lo,(r0.ag.mn:Int),(r0.ag.mx:Int)] 140)).heap.size=w1.heap.size+1+1 from by simp] at F;have HN:=zI F;clear S Jlx y U F p;go_wp2_with (at_builtin;refine qdl _ rfl _ _ 43 rfl (w.heap.size+1) 142 i0 _ 7 64 Tryz.underlying43 C R P O rfl (by decide) _ _ _ rfl (((b.alloc _).alloc _).alloc _) ⟨w1.heap.size+1+1,0,none⟩ 1 1 r0.cells rfl rfl HN.out Jv7 j.1 j.2 ?c5 ?_;(simp;omega);intro v' w4 a q _)
    have i:=(((n.alloc (.cells #[r0.nm,(r0.st:Int)] 289)).alloc (.cells #[(r0.ag.c:Int),(r0.ag.hi:Int),.int .u64 r0.ag.lo,(r0.ag.mn:Int),(r0.ag.mx:Int)] 140)).alloc (.cells #[r0.nm,(r0.st:Int),(r0.ag.c:Int),(r0.ag.hi:Int),.int .u64 r0.ag.lo,(r0.ag.mn:Int),(r0.ag.mx:Int)] 142)).kept q (J6l z (by omega)) (J6l z (by omega));go_roundw
    case rel=>exact⟨_,cnt1,xs++[r0],i,(List.perm_append_comm.trans (I.out.cons r0)).trans J.out.symm,by simpa using a,(((u.alloc u.size _).alloc (by have:=u.size;simp;omega) _).alloc (by have:=u.size;simp;omega) _).grown q (by have:=u.size;simp;omega) (fun k hk=>by have:=(z.lt k hk).1;omega)⟩
    case measure=>rw[i.left_eq,G.out.left_eq];exact H.out
end Go.Proofs.YtglmhddbhhcjdaaGreatDoor
namespace Go.Proofs.YtglmhddbhhcjdaaGreatDoor
open Go.RowKit Go.Maps
theorem wf_i64{z:Int}(h: -9223372036854775808<=z/\z<=9223372036854775807):(Lit.int .i64 z).wf=true:=by
 have:IntKind.i64.min= -9223372036854775808/\IntKind.i64.max=9223372036854775807:=by decide
 simpa[Lit.wf,this.1,this.2] using h
def bump (k:Int):List (Int×Int) ->List (Int×Int)
 | []=>[(k,1)]
 | p::r=>if p.1=k then (p.1,p.2+1)::r else p::bump k r
def atc (cs:List (Int×Int)) (k:Int):Int:=match cs with
 | []=>0
 | p::r=>if p.1=k then p.2 else atc r k
def Jep (ks:List Int):List (Int×Int):=ks.foldl (fun c k=>bump k c) []
theorem Jdo(ks:List Int)(k:Int):Jep (ks++[k])=bump k (Jep ks):=by simp[Jep,qb8]
theorem Jn4{k:Int}{p:Int×Int}:∀ {cs:List (Int×Int)},p∈bump k cs ->p.1=k\/p∈cs
 | [],h=>by simp[bump] at h;exact .inl (by rw[h])
 | q ::r,h=>by
   unfold bump at h;split at h
   · next e=>
     rcases qbb.1 h with rfl | h
     · exact .inl e
     · exact .inr (by simp[h])
   · rcases qbb.1 h with rfl | h
     · exact .inr (by simp)
     · rcases Jn4 h with h | h
       · exact .inl h
       · exact .inr (by simp[h])
theorem Jiw{k:Int}:∀ {cs:List (Int×Int)},cs.Pairwise (fun p q=>p.1≠q.1) ->(bump k cs).Pairwise (fun p q=>p.1≠q.1)
 | [],_=>by simp[bump]
 | q ::r,h=>by
   rw[qa9] at h;unfold bump;split
   · rw[qa9];exact h
   · next e=>
     rw[qa9];refine⟨fun p hp=> ?_,Jiw h.2⟩;rcases Jn4 hp with z | z
     · rw[z];exact e
     · exact h.1 p z
theorem Jpw{k:Int}:∀ {cs:List (Int×Int)},cs.Pairwise (fun p q=>p.1≠q.1) ->(bump k cs).Perm ((k,atc cs k+1)::cs.filter fun p=> !decide (p.1=k))
 | [],_=>by simp[bump,atc]
 | q ::r,h=>by
   rw[qa9] at h;unfold bump atc;split
   · next e=>
     rw[qbv,qay (by simp[e]),qbx.2 (fun p hp=>by have:=h.1 p hp;simp;rw[<- e];exact fun e2=>this e2.symm),e]
   · next e=>
     rw[qbv,qa0 (by simp[e])];exact((Jpw h.2).cons q).trans (List.Perm.swap _ q _)
theorem Jsc(ks:List Int):(Jep ks).Pairwise (fun p q=>p.1≠q.1):=by
 obtain⟨m,rfl⟩:∃m:List Int,ks=m.reverse:=⟨ks.reverse,by simp⟩
 induction m with
 | nil=>exact List.Pairwise.nil
 | cons a r ih=>rw[qby,Jdo];exact Jiw ih
def sumC (cs:List (Int×Int)):Int:=match cs with
 | []=>0
 | p::r=>p.2+sumC r
def Jc6 (cs:List (Int×Int)):Int:=match cs with
 | []=>0
 | p::r=>(p.2+2) / 3+Jc6 r
theorem Jpx(k:Int):∀cs:List (Int×Int),sumC (bump k cs)=sumC cs+1
 | []=>rfl
 | q::r=>by
   unfold bump;split
   · simp only[sumC];omega
   · simp only[sumC];rw[Jpx k r];omega
theorem Jeq(ks:List Int):sumC (Jep ks)=ks.length:=by
 obtain⟨m,rfl⟩:∃m:List Int,ks=m.reverse:=⟨ks.reverse,by simp⟩
 induction m with
 | nil=>rfl
 | cons a r ih=>rw[qby,Jdo,Jpx,ih];simp
theorem Jt8{k:Int}:∀ {cs:List (Int×Int)},(∀p∈cs,1<=p.2) ->∀p∈bump k cs,1<=p.2
 | [],_=>by simp[bump]
 | q ::r,h=>by
   intro p z;unfold bump at z;split at z
   · rcases qbb.1 z with rfl | z
     · have:=h q (by simp);simp;omega
     · exact h p (by simp[z])
   · rcases qbb.1 z with rfl | z
     · exact h p (by simp)
     · exact Jt8 (fun p z=>h p (by simp[z])) p z
theorem Jer(ks:List Int):∀p∈Jep ks,1<=p.2:=by
 obtain⟨m,rfl⟩:∃m:List Int,ks=m.reverse:=⟨ks.reverse,by simp⟩
 induction m with
 | nil=>simp[Jep]
 | cons a r ih=>rw[qby,Jdo];exact Jt8 ih
theorem Jn5:∀ {cs:List (Int×Int)},(∀p∈cs,1<=p.2) ->(∀p∈cs,p.2<=sumC cs)/\(cs.length:Int)<=sumC cs
 | [],_=>by simp[sumC]
 | q::r,h=>by
   obtain⟨y,x⟩:=Jn5 (cs:=r) (fun p z=>h p (by simp[z]));have w:=h q (by simp);simp only[sumC];refine⟨fun p z=> ?_,by simp;omega⟩;rcases qbb.1 z with rfl | z
   · omega
   · have:=y p z;omega
theorem Jt9:∀ {cs:List (Int×Int)},(∀p∈cs,1<=p.2) ->sumC cs<=3*Jc6 cs/\Jc6 cs<=sumC cs/\0<=Jc6 cs
 | [],_=>by simp[sumC,Jc6]
 | q::r,h=>by
   have:=Jt9 (cs:=r) (fun p hp=>h p (by simp[hp]));have z:=h q (by simp);simp only[sumC,Jc6];omega
theorem Jv8{cs ds:List (Int×Int)}(h:cs.Perm ds):Jc6 cs=Jc6 ds:=by
 induction h with
 | nil=>rfl
 | cons x _ ih=>simp only[Jc6,ih]
 | swap x y l=>simp only[Jc6];omega
 | trans _ _ h1 h2=>rw[h1,h2]
theorem J9m{cs:List (Int×Int)}(h:∀p∈cs,1<=p.2)(k:Int):0<=atc cs k/\atc cs k<=sumC cs:=by
 induction cs with
 | nil=>simp[atc,sumC]
 | cons q r ih=>
   have z:=ih (fun p hp=>h p (by simp[hp]));have y:=h q (by simp);have x:=(Jn5 (cs:=r) (fun p hp=>h p (by simp[hp]))).2;unfold atc;split<;>simp only[sumC]<;>omega
def cntP (p:Int×Int):Lit×DataW Unit:=(.int .i64 p.1,.lit (.int .i64 p.2))
structure RepC (D:DataW Unit) (cs:List (Int×Int)):Prop where
 perm:∃ps,D= .map ps/\ps.Perm (cs.map cntP)
 apart:cs.Pairwise (fun p q=>p.1≠q.1)
theorem Jjs{a b:Int}:(Lit.int .i64 a).sameKey (Lit.int .i64 b)=decide (a=b):=by
 rw[qcg,WideAt.sameKey_iff (by simp[WideAt.IsKeyLit])]
 simp
theorem RepC.nil:RepC (.map []) []:=⟨⟨[],rfl,List.Perm.refl _⟩,List.Pairwise.nil⟩
theorem RepC.size{D:DataW Unit}{cs:List (Int×Int)}(h:RepC D cs):Maps.size D=cs.length:=by
 obtain⟨ps,rfl,z⟩:=h.perm;rw[Maps.size_eq,z.length_eq,qa4]
theorem RepC.entries{D:DataW Unit}{cs:List (Int×Int)}(h:RepC D cs):∃ps,D= .map ps/\ps.Perm (cs.map cntP)/\ps.Pairwise (fun p q=>p.1≠q.1):=by
 obtain⟨ps,rfl,y⟩:=h.perm;refine⟨ps,rfl,y,?_⟩;refine(y.pairwise_iff (fun {_ _} z=>Ne.symm z)).2 ?_;rw[List.pairwise_map];refine h.apart.imp ?_;intro a b z e;simp[cntP] at e;exact z e
theorem J7h{cs:List (Int×Int)}(h:cs.Pairwise (fun p q=>p.1≠q.1)){p:Int×Int}(hp:p∈cs):atc cs p.1=p.2:=by
 induction cs with
 | nil=>cases hp
 | cons q r ih=>
   rw[qa9] at h;unfold atc;rcases qbb.1 hp with rfl | hp
   · rw[qa0 rfl]
   · rw[qay (h.1 p hp)];exact ih h.2 hp
theorem Jn6:∀ {cs:List (Int×Int)} {k:Int},(∀p∈cs,p.1≠k) ->atc cs k=0
 | [],_,_=>rfl
 | q::r,k,h=>by unfold atc;rw[qay (h q (by simp))];exact Jn6 (fun p hp=>h p (by simp[hp]))
theorem RepC.at_{D:DataW Unit}{cs:List (Int×Int)}(h:RepC D cs)(k:Int):D.atKey (.int .i64 k) (.lit (.int .i64 0))= .lit (.int .i64 (atc cs k)):=by
 obtain⟨ps,rfl,x,y⟩:=h.entries;by_cases w:∃p∈cs,p.1=k
 · obtain⟨p,z,rfl⟩:=w
   rw[J7h h.apart z];exact WideAt.atKey_mem _ (by simp[WideAt.IsKeyLit]) y (x.mem_iff.2 (qbn.2 ⟨p,z,rfl⟩))
 · have v:∀p∈cs,p.1≠k:=fun p z e=>w ⟨p,z,e⟩
   rw[Jn6 v];refine WideAt.atKey_none _ (fun q hq e=> ?_);obtain⟨p,z,rfl⟩:=qbn.1 (x.mem_iff.1 hq);simp[cntP] at e;exact v p z e
theorem RepC.put{D:DataW Unit}{cs:List (Int×Int)}(h:RepC D cs)(k:Int):RepC (D.put (.int .i64 k) (.lit (.int .i64 (atc cs k+1)))) (bump k cs):=by
 obtain⟨ps,rfl,z⟩:=h.perm;refine⟨⟨_,by unfold DataW.put;rfl,?_⟩,Jiw h.apart⟩;refine(WideShapes.insert_perm _ _).trans ?_;refine List.Perm.trans ?_ ((Jpw h.apart).map cntP).symm;rw[qbz];refine List.Perm.cons _ ?_;refine(z.filter _).trans ?_;rw[List.filter_map];refine List.Perm.of_eq ?_
 congr 1
 apply qb9;intro p _;exact congrArg Bool.not Jjs
structure Jhc (w:World) (b:Nat) (cs:List (Int×Int)):Prop where
 own:∃D:DataW Unit,w.ownsMap Tryz.prog 3 (plainElem Tryz.prog 3) b cs.length D/\RepC D cs
theorem Jhc.mk'{w:World}{b n:Nat}{D:DataW Unit}{cs:List (Int×Int)}(h:w.ownsMap Tryz.prog 3 (plainElem Tryz.prog 3) b n D)(hr:RepC D cs):Jhc w b cs:=
 ⟨D,by have:=Jb4 h;rwa [hr.size] at this,hr⟩
theorem Jhc.lt{w:World}{b:Nat}{cs:List (Int×Int)}(h:Jhc w b cs):b<w.heap.size:=by obtain⟨D,z,_⟩:=h.own;exact z.lt
theorem Jhc.grown{w w':World}{b:Nat}{cs:List (Int×Int)}{row:Option Nat}(h:Jhc w b cs)(hg:w.grownBy w' row)(hne:some b≠row):Jhc w' b cs:=by
 obtain⟨D,z,y⟩:=h.own;exact⟨D,z.kept hg hne,y⟩
theorem Jhc.below{w w':World}{b:Nat}{cs:List (Int×Int)}(h:Jhc w b cs)(hb:Below w.heap.size w w'):Jhc w' b cs:=h.grown (Jab hb none) (by simp)
theorem Jhc.nocell{w:World}{b:Nat}{cs:List (Int×Int)}(h:Jhc w b cs)(o:Nat):w.cell? ⟨b,o,none⟩=none:=by
 obtain⟨D,⟨es,c,z,_⟩,_⟩:=h.own;simp[World.cell?,z]
theorem Jcu:Keyed Tryz.prog 3:=int_keyed Tryz.underlying3
theorem J3v(w:World):(zeroValue 3).run Tryz.prog w= .ok (0:Int) w:=by kernel_rfl
def camC (cs:List (Int×Int)) (left:Lit ->Bool):List (Int×Int):=cs.filter fun p=> !left (.int .i64 p.1)
theorem Jv9{D:DataW Unit}{cs:List (Int×Int)}(h:RepC D cs):camC cs (Maps.has D)=[]:=by
 unfold camC;rw[qds];intro p y;obtain⟨ps,rfl,z⟩:=h.perm;rw[Maps.has_eq];simp only[Bool.not_eq_true',Bool.not_eq_false];rw[List.any_eq_true];exact⟨cntP p,z.mem_iff.2 (qbn.2 ⟨p,y,rfl⟩),by show(Lit.int .i64 p.1).sameKey _=true;rw[Jjs];simp⟩
theorem J3w{cs:List (Int×Int)}{left:Lit ->Bool}(h:∀kl,left kl=false):camC cs left=cs:=by
 unfold camC;exact qbx.2 (fun r _=>by rw[h];rfl)
theorem Jyu{cs:List (Int×Int)}(hap:cs.Pairwise (fun p q=>p.1≠q.1)){left:Lit ->Bool}{p:Int×Int}(hp:p∈cs)(hl:left (.int .i64 p.1)=true):(camC cs fun z=>left z && !z.sameKey (.int .i64 p.1)).Perm (p::camC cs left):=by
 obtain⟨a,b,rfl⟩:=List.append_of_mem hp;rw[List.pairwise_append,qa9] at hap;obtain⟨_,⟨u,_⟩,v⟩:=hap
 have y:∀x:Int×Int,x.1≠p.1 ->(left (.int .i64 x.1) && !(Lit.int .i64 x.1).sameKey (.int .i64 p.1))=left (.int .i64 x.1):=by
  intro x w;rw[Jjs,qae w];simp
 have e1:camC a (fun z=>left z && !z.sameKey (.int .i64 p.1))=camC a left:=by
  unfold camC;apply qb9;intro x w;exact congrArg Bool.not (y x (v x w p (by simp)))
 have e2:camC b (fun z=>left z && !z.sameKey (.int .i64 p.1))=camC b left:=by
  unfold camC;apply qb9;intro x w;exact congrArg Bool.not (y x (fun e=>u x w e.symm))
 unfold camC at*;rw[qcz,qcz,qbv,qbv,e1,e2,qa0 (by show(!(left _ && !(Lit.int .i64 p.1).sameKey (.int .i64 p.1)))=true;rw[Jjs];simp),qay (by rw[hl];simp)];exact List.perm_middle
theorem RepC.next{D:DataW Unit}{cs:List (Int×Int)}(h:RepC D cs){x c:Int}(hat:∀z,D.atKey (.int .i64 x) z= .lit (.int .i64 c)):(x,c)∈cs:=by
 obtain⟨ps,rfl,u,v⟩:=h.entries;by_cases t:∃p∈cs,p.1=x
 · obtain⟨p,y,rfl⟩:=t
   have w:=WideAt.atKey_mem (.lit (.int .i64 0)) (by simp[WideAt.IsKeyLit]) v (u.mem_iff.2 (qbn.2 ⟨p,y,rfl⟩)) (k:= .int .i64 p.1) (d:= .lit (.int .i64 p.2));rw[hat] at w;simp at w;rw[w];exact y
 · have w:(DataW.map ps).atKey (.int .i64 x) .nil= .nil:=WideAt.atKey_none _ (fun q hq e=>by
    obtain⟨p,y,rfl⟩:=qbn.1 (u.mem_iff.1 hq);simp[cntP] at e;exact t ⟨p,y,e⟩)
   rw[hat] at w;cases w
theorem Jsd{w:World}{B:Nat}{v:Value}{l:List Rc}(h:w.ownsRow B 142 7 v l.length (l.flatMap Rc.cells))(hok:∀r∈l,r.Ok)(hn:l.length<=maxLen):
  ∃A c,v= .slice A l.length c/\Rcs w A l.length l:=by
 have z:∀r∈l,r.nm.size<=maxLen:=fun r hr=>(hok r hr).nm;have y:∀r∈l,(Lit.int .i64 r.st).wf=true:=fun r hr=>(hok r hr).st;have x:∀r∈l,r.ag.Ok:=fun r hr=>(hok r hr).ag.ok;rcases h.2 with⟨rfl,t⟩ | ⟨g,cap,cur,rfl,_,s,_,_,_,p⟩
 · refine⟨none,0,by rw[t],⟨?_,rfl,hn,z,y,x⟩⟩
   rw[qa5 t];exact Sl.nil _ _
 · refine⟨some ⟨g,0,none⟩,cap,rfl,⟨⟨fun _=>⟨g,0,rfl,qcb s,fun j u hu=> ?_⟩⟩,rfl,hn,z,y,x⟩⟩
   have q:j<l.length*7:=by have:=(qbs.1 hu).1;rwa [Jca Jeo] at this
   rw[qa7,h.cellAt j q];exact hu
theorem Rcs.keepB{w w':World}{A:Option Addr}{n b0:Nat}{l:List Rc}(h:Rcs w A n l)(hm:∀o,w.cell? ⟨b0,o,none⟩=none)(hg:w.grownBy w' (some b0)):Rcs w' A n l:=by
 refine⟨⟨fun hne=> ?_⟩,h.len,h.n_le,h.nm,h.st,h.ok⟩;obtain⟨b,off,e,x,y⟩:=h.sl.at_ hne
 have z:b≠b0:=by
  intro e2;subst e2;cases hx:l.flatMap Rc.cells with
  | nil=>exact hne hx
  | cons u r=>
    have:=y 0 u (by rw[hx];rfl);rw[hm] at this;cases this
 exact⟨b,off,e,qar x hg.size,fun j u hu=>hg.cell (y j u hu) (fun e3=>z (by injection e3))⟩
def Jbk (n:Int) (l:List Rc):List Int:=l.map fun r=>Jc2 r.nm.toList (max n 1)
theorem Jhd(n:Int)(l:List Rc)(r:Rc):Jbk n (l++[r])=Jbk n l++[Jc2 r.nm.toList (max n 1)]:=by simp[Jbk]
def Jix (n:Int) (l:List Rc):Int:=Jc6 (Jep (Jbk n l))
theorem Jyv(s:List UInt8)(n:Int)(hn: -9223372036854775808<=n/\n<=9223372036854775807):(Lit.int .i64 (Jc2 s n)).wf=true:=by
 have z:=Jrv s
 have:0<=Jc2 s n/\Jc2 s n<=9223372036854775807:=by
  unfold Jc2;split
  · omega
  · have:=Int.emod_nonneg (hash s) (show n≠0 by omega)
    have:=Int.emod_lt_of_pos (hash s) (show 0<n by omega);omega
 exact wf_i64 (by omega)
theorem J9n(n:Int)(l:List Rc)(k:Int):0<=atc (Jep (Jbk n l)) k/\atc (Jep (Jbk n l)) k<=l.length:=by
 have z:=J9m (Jer (Jbk n l)) k;rw[Jeq] at z
 simpa[Jbk] using z
theorem J9o(n:Int)(l:List Rc):(Jep (Jbk n l)).length<=l.length:=by
 have z:=(Jn5 (Jer (Jbk n l))).2;rw[Jeq] at z;simp[Jbk] at z;exact z
theorem J7i{cs:List (Int×Int)}(h:∀p∈cs,1<=p.2)(left:Lit ->Bool):0<=Jc6 (camC cs left)/\Jc6 (camC cs left)<=Jc6 cs:=by
 induction cs with
 | nil=>simp[camC,Jc6]
 | cons q r ih=>
   have z:=ih (fun p hp=>h p (by simp[hp]));have y:=h q (by simp);unfold camC at z ⊢;rw[qbv];split<;>simp only[Jc6]<;>omega
theorem Jyw(n:Int){w:World}{g mm:Nat}{ev:Int}{l:List Rc}(h:Jan w g mm ev l)(hfew:l.length<1000000)(hn: -9223372036854775808<=n/\n<=9223372036854775807):
  Calls Tryz.prog 88 #[.pointer (some ⟨g,0,none⟩),.int .i64 n] w fun e w'=>e= .returned (.int .i64 (Jix n l))/\Below w.heap.size w w':=by
 have Ke:=@run_makeMap Tryz.prog;have S:Below w.heap.size w (w.alloc (.map #[] 0)):=(qaa _ _).alloc (qab _) _;have h1:=h.below S;have C:Jhc (w.alloc (.map #[] 0)) w.heap.size []:=⟨_,World.ownsMap_made w _ _ _,RepC.nil⟩;obtain⟨_,_,B⟩:=h.map.own;go_enter Tryz.func88,Tryz.ntmps88
 go_wp2_with (first
  | (go_at_call 158;refine(Jn3 h1 hfew).mono ?_;rintro e w1 ⟨v,rfl,N,R⟩
     obtain⟨A,c,rfl,u⟩:=Jsd N B.ok (by unfold maxLen;omega)))
 have P:=C.below R;have m:=S.trans (R.mono S.size);have hJ:=R.size;have Ka:w.heap.size<w1.heap.size:=by simp at hJ;omega
 clear hJ;clear N R C S;go_loopw [15] (fun i wr=>∃j:Nat,j<=l.length/\i= .int .i64 j/\Jhc wr w.heap.size (Jep (Jbk n (l.take j)))/\Rcs wr A l.length l/\Below w.heap.size w wr) (fun i _=>l.length - (intOf i).toNat)
 case atStart=>exact⟨0,qaq _,rfl,P,u,m⟩
 case round=>
  clear P u m;obtain⟨j,hj,rfl,s,u,m⟩:=hrel;by_cases y:j<l.length
  · obtain⟨b,off,rfl,hb,X⟩:=u.get y
    obtain⟨r0,r1,r2,r3,r4,r5,r6⟩:=X;have Hk:=u.nm _ (qan y);have f:=J9n n (l.take j) (Jc2 (l[j]'y).nm.toList (max n 1));have a:=J9o n (l.take j);have K:(l.take j).length=j:=by rw[qao];omega
    rw[K] at f a;have HT:=zI (show Jep (Jbk n (l.take (j+1)))=bump (Jc2 (l[j]'y).nm.toList (max n 1)) (Jep (Jbk n (l.take j))) from by rw[qam y,Jhd,Jdo]);have O:=Jyv (l[j]'y).nm.toList (max n 1) (by omega);have hq:Jc2 (l[j]'y).nm.toList (max n 1)=Jc2 (l[j]'y).nm.toList (max n 1):=rfl;generalize Jep (Jbk n (l.take j))=cs at*;generalize (l[j]'y)=x at*;obtain⟨q,hq⟩:∃q,Jc2 x.nm.toList (max n 1)=q:=⟨_,rfl⟩;rw[hq] at f HT O;have HQ:=zI hq;clear hq;obtain⟨D,r,d⟩:=s.own;have Z:=d.at_ q;have Y:=d.put q;have Ha:(Lit.int .i64 (atc cs q+1)).wf=true:=wf_i64 (by omega);obtain⟨z,hz⟩:∃z,atc cs q=z:=⟨_,rfl⟩;rw[hz] at Z Y Ha f;have Hl:=zI Z;have Hb:=zI Y;clear hz Z Y;have Kb:=f.1;have Kc:z<=1000000:=(by omega);have HB:=zI f.2;have Hc:=zI a;have Kf:=zI K;clear f a K;have Hd:w.heap.size<wr.heap.size:=s.lt;have W:=s.nocell
    have Hm:=zI (show ∀o,(wr.alloc (.cells #[.string x.nm,.int .i64 x.st,.int .i64 x.ag.c,.int .i64 x.ag.hi,.int .u64 x.ag.lo,.int .i64 x.ag.mn,.int .i64 x.ag.mx] 142)).cell? ⟨w.heap.size,o,none⟩=none from fun o=>by
     rw[qb0 _ _ _ Hd];exact W o)
    clear W;have Hn:=zI (show cs.length<maxLen from by have:=Hc.out;unfold maxLen;omega)
    go_wp2_with (first
     | (go_at_call 159;refine(Jo7 x.nm (max n 1) _ Hk).mono ?_;rw[HQ.out];rintro e w2 ⟨rfl,rfl⟩)
     | (at_lookup;refine wpList_lookup_own_int _ rfl _ _ 252 rfl 3 3 .i64 Jcu Tryz.underlying252 Tryz.underlying3 (J3v _) w.heap.size _ D rfl (r.alloc _) _ _ rfl (keyOf_int_mk Tryz.underlying3 O) ?_;intro c hat J;obtain rfl:z=c:=(by have:=hat.symm.trans Hl.out;simpa using this.symm);clear hat J)
     | (at_mapUpdate;refine wpList_mapUpdate_own _ rfl _ _ _ 252 rfl 3 3 Jcu Tryz.underlying252 (plainElem Tryz.prog 3) w.heap.size cs.length D rfl (r.alloc _) Hn.out _ _ (.int .i64 q) rfl rfl (keyOf_int_mk Tryz.underlying3 O) (.lit (.int .i64 (z+1))) [] (plainElem_int Tryz.underlying3 Ha) ?_;intro w3 I He))
    have Hf:=Jhc.mk' I Hb.out;have Ho:Below w.heap.size w w3:=(m.alloc (by omega) _).grown He (by simp;omega) (fun k O=>by cases O;exact qab _);have Hg:=(u.below ((qaa _ _).alloc (qab _) (.cells #[.string x.nm,.int .i64 x.st,.int .i64 x.ag.c,.int .i64 x.ag.hi,.int .u64 x.ag.lo,.int .i64 x.ag.mn,.int .i64 x.ag.mx] 142))).keepB Hm.out He;go_roundw
    case rel=>exact⟨j+1,by omega,by go_num,by rw[HT.out];exact Hf,Hg,Ho⟩
    case measure=>simp[intOf];omega
  · have Hp:j=l.length:=by omega
    subst Hp;rw[qca] at s;have H:=Jt9 (Jer (Jbk n l));rw[Jeq] at H;have G:(Jbk n l).length=l.length:=(by simp[Jbk]);rw[G] at H;have V:=(Jn5 (Jer (Jbk n l))).1;rw[Jeq,G] at V;have U:=Jer (Jbk n l);have Hq:=zI (show Jix n l=Jc6 (Jep (Jbk n l)) from rfl);generalize Jep (Jbk n l)=cs at*;obtain⟨D,r,d⟩:=s.own;have M:=m.size;have Kd:=s.lt;have Hh:=fun left:Lit ->Bool=>J7i U left;clear G u s;go_wp2_with (at_range;refine wpList_range_own _ rfl _ 252 rfl 3 3 Jcu Tryz.underlying252 (plainElem Tryz.prog 3) w.heap.size cs.length _ rfl r ?_;intro w0 Hi Hr Kg)
    go_frame
    obtain⟨wo,Hs⟩:∃wo,wo=wr:=⟨_,rfl⟩;subst Hs;have Ht:Below w.heap.size w w0:=m.grown Hr M (fun k O=>by cases O)
    go_loopw [8] (fun t wr=>∃ (left:Lit ->Bool) (cnt:Nat),wr.ranges Tryz.prog 3 (plainElem Tryz.prog 3) w.heap.size wo.heap.size cs.length D left cnt/\t= .int .i64 (Jc6 (camC cs left))/\Below w.heap.size w wr)
     (fun _ wr=>wr.rangeLeft w.heap.size wo.heap.size)
    case atStart=>exact⟨_,_,Hi,by rw[Jv9 d];rfl,Ht⟩
    case round=>
     obtain⟨left,cnt,F,rfl,T⟩:=hrel;go_wp2_with (at_next;refine wpList_next_ranges_ii _ rfl _ rfl 3 3 .i64 .i64 Jcu Tryz.underlying3 Tryz.underlying3 w.heap.size wo.heap.size cs.length _ _ _ rfl F ?_ ?_)
     · intro _ Hu
       rw[J3w Hu];go_wp2;go_ret;exact⟨by rw[Hq.out];rfl,T⟩
     · intro x c w1 cnt1 Hv J Hw hat L y Hx Kh Ki
       have hm:=d.next hat;have E:=Jv8 (Jyu d.apart (p:=(x,c)) hm Hw);have P:=U _ hm;have Hy:=V _ hm;have Hj:=Hh left;simp only at P Hy E;have Hz:=zI E;have Kj:=Hj.1;have Kk:Jc6 (camC cs left)<=1000000:=(by omega);have Kl:c<=1000000:=(by omega);clear E hat Hj Hv J H V U Hh;have H0:=zI y;have H9:=zI F;clear y F;go_wp2;go_roundw
       case rel=>exact⟨_,cnt1,L,by rw[Hz.out];simp only[Jc6];go_num,T.grown Hx T.size (fun k O=>by cases O;exact M)⟩
       case measure=>rw[L.left_eq,H9.out.left_eq];exact H0.out
