/- Laws that the walk of the last text wants. -/
import Derived.WalkSpells
import Derived.WalkLawsBesides
import Derived.BigQuiet
import Derived.Deep.RegionHeld3
import Derived.Deep.AppendLies
import Derived.Deep.Fields
import Derived.OpenShut
import Derived.RangeFuncBox
import Derived.Test.YtglmhddbhhcjdaaGreatDoorC2
set_option maxRecDepth 100000
set_option linter.unusedSimpArgs false
set_option maxHeartbeats 4000000
namespace Go.Proofs.YtglmhddbhhcjdaaGreatDoor
open Go.RowKit
theorem J20(s:ByteArray)(w:World)(hs:s.size<=maxLen):
  Cs 243 #[s] w (RS w (.int .u32 (hash s.toList))):=by
 unfold maxLen at hs;go_enter Tryz.func243,Tryz.ntmps243;go_wp2;go_loop [3,7] (fun x i=>∃k:Nat,k<=s.size/\i= .int .i64 k/\x= .int .u32 (hash (s.toList.take k))) (fun _ i=>s.size - (intOf i).toNat)
 case atStart=>exact⟨0,qaq _,rfl,rfl⟩
 case round=>
  obtain⟨k,v,rfl,rfl⟩:=hrel;by_cases z:k<s.size
  · have y:Hid (hash (s.toList.take (k+1))=Jlx (hash (s.toList.take k)) s[k]):=by rw[Jcg s k z];exact Jxu _ _
    go_wp2;go_round
    case rel=>exact⟨k+1,by omega,by go_num,by rw[y.out];rfl⟩
    case measure=>simp[intOf];omega
  · go_wp2
    go_ret;exact⟨by rw[qap (by rw[Jac];omega)];rfl,rfl⟩
theorem Jo7(s:ByteArray)(n:Int)(w:World)(hs:s.size<=maxLen):
  Cs 159 #[s,(n:Int)] w (RS w (Jc2 s.toList n:Int)):=by
 have y:=Jrv s.toList;by_cases h:n<1
 · have z:Hid (Jc2 s.toList n=0):=qa0 h
   go_enter Tryz.func159,Tryz.ntmps159;go_wp2;go_ret;exact⟨by rw[z.out];rfl,rfl⟩
 · have z:Hid (Jc2 s.toList n=hash s.toList % n):=qay h
   go_enter Tryz.func159,Tryz.ntmps159;go_wp2_with (go_at_call 243;refine(J20 _ _ hs).mono ?_;rintro e w' ⟨rfl,rfl⟩)
   go_ret;exact⟨by rw[z.out];rfl,rfl⟩
theorem Jel(c:Int)(w:World)(h0:0<=c)(h1:c<=255):
  Cs 254 #[.int .u8 c] w (RS w (Jdt c)):=by
 by_cases a:97<=c<;>by_cases b:c<=122<;>by_cases d:48<=c<;>by_cases f:c<=57<;>by_cases g:c=46<;>by_cases i:c=95<;>by_cases j:c=45<;>try omega
 all_goals
  go_enter Tryz.func254,Tryz.ntmps254;go_wp2;go_ret
  first
   | exact⟨by rw[Jl5 (by omega)];rfl,rfl⟩
   | exact⟨Jal (by rw[Jo0 (by omega)];simp;omega),rfl⟩
theorem J6r(a:ByteArray)(w:World):
  Cs 372 #[a] w fun e w'=>e= .returned false/\w=w':=by
 go_enter Tryz.func372,Tryz.ntmps372;go_wp2;go_ret;exact⟨by simp,rfl⟩
theorem J6s(a:Int)(w:World):
  Cs 373 #[(a:Int)] w fun e w'=>e= .returned false/\w=w':=by
 go_enter Tryz.func373,Tryz.ntmps373;go_wp2;go_ret;exact⟨by simp,rfl⟩
theorem Jtq(a b:ByteArray)(w:World):
  Cs 306 #[a,b] w (RS w (cmpS a.toList b.toList:Int)):=by
 go_enter Tryz.func306,Tryz.ntmps306;go_wp2_with (go_at_call 372;refine(J6r _ _).mono ?_;rintro e w' ⟨rfl,rfl⟩)
 all_goals
  go_ret;exact⟨Jby (by simp[cmpS, *]),rfl⟩
theorem Jtr(a b:Int)(w:World):
  Cs 307 #[(a:Int),(b:Int)] w (RS w (cmpI a b:Int)):=by
 go_enter Tryz.func307,Tryz.ntmps307;go_wp2_with (go_at_call 373;refine(J6s _ _).mono ?_;rintro e w' ⟨rfl,rfl⟩)
 all_goals
  go_ret;exact⟨Jby (by unfold cmpI;first | rw[qa0 (by assumption)] | rw[qay (by omega),qa0 (by assumption)] | rw[qay (by omega),qay (by omega)]),rfl⟩
def orI (a b:Int):Int:=if a=0 then b else a
theorem J6e(a b:Int)(g:Nat)(w:World)(h0:w.cell? ⟨g,0,none⟩=some (.int .i64 a))(h1:w.cell? ⟨g,1,none⟩=some (.int .i64 b)):
  Cs 305 #[.slice (some ⟨g,0,none⟩) 2 2] w (RS w (orI a b:Int)):=by
 go_enter Tryz.func305,Tryz.ntmps305;go_wp2;refine wp_loop_rounds 3 ?_;rw[rounds_succ];go_wp2
 all_goals try (rw[rounds_succ];go_wp2)
 all_goals try (rw[rounds_succ];go_wp2)
 all_goals
  go_ret;exact⟨Jby (by simp[orI];simp_all),rfl⟩
theorem Jr0(a b:ByteArray)(x y:Int)(r s t u v r' s' t' u' v':Value)(w:World):
  Cs 242 #[.agg #[a,(x:Int),r,s,t,u,v],.agg #[b,(y:Int),r',s',t',u',v']] w (RB w (cmpR a.toList x b.toList y:Int)):=by
 go_enter Tryz.func242,Tryz.ntmps242;go_wp2
 go_region_held3 (fun w'=>w'.cell? ⟨w.heap.size,0,none⟩=some (.string a)/\w'.cell? ⟨w.heap.size,1,none⟩=some (.int .i64 x)/\w'.cell? ⟨w.heap.size+1,0,none⟩=some (.string b)/\w'.cell? ⟨w.heap.size+1,1,none⟩=some (.int .i64 y))
  (first | assumption | (simp[go_sem,qb0]))
  (first
    | (go_at_call 306;refine(Jtq _ _ _).mono ?_;rintro e w' ⟨rfl,rfl⟩)
    | (go_at_call 307;refine(Jtr _ _ _).mono ?_;rintro e w' ⟨rfl,rfl⟩)
    | (go_at_call 305;refine(J6e (cmpS a.toList b.toList) (cmpI x y) _ _ (by simp[go_sem]) (by simp[go_sem])).mono ?_;rintro e w' ⟨rfl,rfl⟩))
 go_wp2;go_ret;exact⟨rfl,by repeat (first | exact qaa _ _ | refine Below.drew ?_ | refine qc8 ?_ (by simp;try omega) _)⟩
theorem Jbj(A:Option Addr)(n c:Nat)(ss:List ByteArray)(w:World)(hn:n<=maxLen)(hl:ss.length=n)(hs:∀s∈ss,s.size<=maxLen)(hr:0<n ->∃b off,A=some ⟨b,off,none⟩/\∀i (h:i<ss.length),w.cell? ⟨b,off+i,none⟩=some (.string ss[i])):
  Cs 168 #[.slice A n c] w (RS w (ss.all fun s=>Jae s.toList)):=by
 unfold maxLen at hn hs;go_enter Tryz.func168,Tryz.ntmps168;go_wp2;go_loop [8] (fun i=>∃k:Nat,k<=n/\i= .int .i64 k/\((ss.take k).all fun s=>Jae s.toList)=true) (fun i=>n - (intOf i).toNat)
 case atStart=>exact⟨0,qaq _,rfl,rfl⟩
 case round =>
  obtain⟨k,W,rfl,y⟩:=hrel;have o:=zI y;clear y;by_cases g:k<n
  · obtain ⟨b,off,rfl,m⟩:=hr (by omega)
    have q:=m k (by omega);have f:=hs ss[k] (qan _);have p:Hid (ss.take (k+1)=ss.take k++[ss[k]]):=qam (by omega);clear m hs;have z:ss[k]∈ss:=qan _;generalize ss[k]'(by omega)=s at*;by_cases d:s.size<1
    · have u:=Jio (fun s:ByteArray=>Jae s.toList) ss s z (Je1 s (.inl d))
      have t:=zI u;clear u;go_wp2;go_ret;exact⟨Jal t.out.symm,rfl⟩
    · by_cases a:15<s.size
      · have u:=Jio (fun s:ByteArray=>Jae s.toList) ss s z (Je1 s (.inr a))
        have t:=zI u;clear u;go_wp2;go_ret;exact⟨Jal t.out.symm,rfl⟩
      · go_wp2
        go_loop [22] (fun i=>∃j:Nat,j<=s.size/\i= .int .i64 j/\Jbg (s.toList.take j)=true) (fun i=>s.size - (intOf i).toNat)
        case atStart=>exact⟨0,qaq _,rfl,rfl⟩
        case round=>
         obtain⟨j,V,rfl,x⟩:=hrel;have l:=zI x;clear x;by_cases r:j<s.size
         · have v:=zI (Jja s j r)
           have U:s[j].toNat<=255:=by have:=s[j].toNat_lt;omega
           cases hb:Jdt s[j].toNat
           · have t:=zI (Jio (fun s:ByteArray=>Jae s.toList) ss s z (Jo1 s (Jj6 s j r hb)))
             go_wp2_with (go_at_call 254;refine(Jel _ _ (by omega) (by omega)).mono ?_;rintro e w' ⟨rfl,rfl⟩)
             go_ret;exact⟨Jal t.out.symm,rfl⟩
           · have Z:Hid (Jbg (s.toList.take (j+1))=true):=by rw[v.out,l.out,hb];rfl
             go_wp2_with (go_at_call 254;refine(Jel _ _ (by omega) (by omega)).mono ?_;rintro e w' ⟨rfl,rfl⟩)
             go_round
             case rel=>exact⟨j+1,by omega,by go_num,Z.out⟩
             case measure=>simp[intOf];omega
         · have Y:Hid (Jae s.toList=true):=Jtj s (by omega) (by omega) (by rw[<- l.out,qap (by rw[Jac];omega)])
           go_wp2;go_round
           case rel=>exact⟨k+1,by omega,by go_num,Jtk (fun s:ByteArray=>Jae s.toList) ss k s p.out o.out Y.out⟩
           case measure=>simp[intOf];omega
  · go_wp2
    go_ret;exact⟨Jal (by rw[<- o.out,qap (by omega)]),rfl⟩
section
variable {α:Type} [Inhabited α] {cs:α ->List Value} {k:Nat}
omit [Inhabited α] in
theorem Jca(hk:∀x,(cs x).length=k):∀l:List α,(l.flatMap cs).length=l.length*k
 | []=>by simp
 | a::r=>by rw[qau,qad,hk,Jca hk r,qa3,Nat.add_mul];omega
omit [Inhabited α] in
theorem Jdh(hk:∀x,(cs x).length=k)(l:List α)(j:Nat)(hj:j<l.length)(q:Nat)(hq:q<k):(l.flatMap cs)[j*k+q]? =(cs l[j])[q]? :=by
 induction l generalizing j with
 | nil=>simp at hj
 | cons a r ih=>
   rw[qau];cases j with
   | zero=>
     rw[qcf (by rw[hk];omega)];simp
   | succ j=>
     have e:(j+1)*k+q=k+(j*k+q):=by rw[Nat.add_mul];omega
     rw[qb6 (by rw[hk];omega),hk,e,Nat.add_sub_cancel_left,ih j (by simp at hj;omega)];rfl
end
structure Bx (w:World) (g:Nat) (T:TypeId) (cs:Array Value):Prop where
 blk:w.heap[g]? =some (.cells cs T (0,0))
section
variable {w w':World} {g:Nat} {T:TypeId} {cs:Array Value}
theorem Bx.lt(h:Bx w g T cs):g<w.heap.size:=qcb h.blk
theorem Bx.cell(h:Bx w g T cs)(i:Nat):w.cell? ⟨g,i,none⟩=cs[i]? :=qb4 w g i cs T (0,0) h.blk
theorem Bx.at_(h:Bx w g T cs)(i:Nat){v:Value}(e:cs[i]? =some v):w.cell? ⟨g,i,none⟩=some v:=(h.cell i).trans e
theorem Bx.free(h:Bx w g T cs)(i:Nat):w.frozen? ⟨g,i,none⟩=false:=frozen_of_row w g i _ _ h.blk
theorem Bx.new(w:World)(T:TypeId)(cs:Array Value):Bx (w.alloc (.cells cs T)) w.heap.size T cs:=⟨qci w _⟩
theorem Bx.below(h:Bx w g T cs)(hb:Below w.heap.size w w'):Bx w' g T cs:=⟨(hb.block g h.lt).trans h.blk⟩
theorem Bx.alloc(h:Bx w g T cs)(o:Obj):Bx (w.alloc o) g T cs:=h.below ((qaa _ _).alloc (qab _) o)
theorem Bx.drew(h:Bx w g T cs):Bx w.drew g T cs:=h.below ((qaa _ _).drew)
theorem Bx.set(h:Bx w g T cs)(i:Nat)(u:Value):Bx (w.setCell ⟨g,i,none⟩ u) g T (cs.setIfInBounds i u):=⟨qdb w g i cs T u h.blk⟩
theorem Bx.other(h:Bx w g T cs){p:Addr}(hp:g≠p.block)(u:Value):Bx (w.setCell p u) g T cs:=⟨(heap_setCell_other w p g u hp).trans h.blk⟩
theorem Bx.grown(h:Bx w g T cs){row:Option Nat}(hg:w.grownBy w' row)(hne:some g≠row):Bx w' g T cs:=⟨(hg.block g h.lt hne).trans h.blk⟩
end
section
variable {P:Program} (w:World)
theorem Jir(base:Nat)(t ty e:TypeId)(i:TypeInfo)(size:Nat)(ht:P.underlying t=some (.slice e))(hi:P.info? e=some i)(v:Value)(n:Nat)(xs:List Value)(hown:w.ownsRow base e size v n xs)(c:Nat):(Builtin.append_ #[t,t] ty #[v,.slice none 0 c]).run P w= .ok v w:=by
 rcases hown.2 with⟨rfl,rfl⟩ | ⟨g,cap,cur,rfl,_,_,z,_⟩
 · simp[Builtin.append_,run_underlying ht,sizeOf,typeInfo,hi,Builtin.lenOf,Builtin.firstCells]
 · simp[Builtin.append_,run_underlying ht,sizeOf,typeInfo,hi,Builtin.lenOf,Builtin.firstCells,z,storeCells]
theorem J6f{A:Addr}{news:List Value}(h:Sl w (some A) news):∀j u,news[j]? =some u ->w.cell? (A.add j)=some u:=by
 intro j u z;obtain⟨b,off,e,_,y⟩:=h.at_ (fun e=>by rw[e] at z;simp at z);cases e
 have:(⟨b,off,none⟩:Addr).add j=⟨b,off+j,none⟩:=by
  unfold Addr.add;split
  · next e=>subst e;rfl
  · rfl
 rw[this];exact y j u z
theorem Jb3(base:Nat)(t ty e:TypeId)(i:TypeInfo)(z:Value)(size bytes:Nat)(ht:P.underlying t=some (.slice e))(hi:P.info? e=some i)(hz:i.zero=some z)(hsize:i.size=size)(hby:i.bytes=bytes)(hzs:z.cells.size=size)(hsz:0<size)(v:Value)(n:Nat)(xs:List Value)(hown:w.ownsRow base e size v n xs)(A:Option Addr)(m c:Nat)(news:List Value)(hl:news.length=m*size)(hr:Sl w A news)(h1:∀u∈news,u.oneCell'=true)(h63:n+m<=maxLen)(hbytes:(n+m)*bytes<=140737488355328)(hbase:base<=w.heap.size):
  ∃v' w',(Builtin.append_ #[t,t] ty #[v,.slice A m c]).run P w= .ok v' w'/\w'.ownsRow base e size v' (n+m) (xs++news)/\w.grownBy w' v.ownBlock/\
   (v'.ownBlock=v.ownBlock\/v'.ownBlock=some w.heap.size):=by
 rcases A with _ | ad
 · have s:news=[]:=by
    rcases news with _ | ⟨a,r⟩
    · rfl
    · obtain⟨b,off,e,_⟩:=hr.at_ (by simp)
      cases e
   subst s
   have q:m=0:=by
    rcases Nat.eq_zero_or_pos m with x | x
    · exact x
    · have:=Nat.mul_pos x hsz
      simp at hl;omega
   subst q;exact⟨v,w,Jir w base t ty e i size ht hi v n xs hown c,by simpa using hown,qcc w _,.inl rfl⟩
 · obtain⟨v',w',y,p,o,_,l⟩:=run_append_own_at (P:=P) w base t ty e i z size bytes ht hi hz hsize hby hzs hsz v n xs hown ad m c news hl (J6f w hr) h1 h63 hbytes hbase
   exact⟨v',w',y,p,o,l⟩
theorem Jjd{o:Oper}{a:Act}{K:Act ->World ->Prop}{Q:Exit ->Act ->World ->Prop}(s x:Operand)(t:TypeId)(ho:o.op= .call {callee:= .builtin .append,args:=#[s,x],argTypes:=#[t,t]})(base:Nat)(e:TypeId)(i:TypeInfo)(z:Value)(size bytes:Nat)(ht:P.underlying t=some (.slice e))(hi:P.info? e=some i)(hz:i.zero=some z)(hsize:i.size=size)(hby:i.bytes=bytes)(hzs:z.cells.size=size)(hsz:0<size)(v:Value)(n:Nat)(xs:List Value)(hs:a.eval s=v)(hown:w.ownsRow base e size v n xs)(A:Option Addr)(m c:Nat)(news:List Value)(hx:a.eval x= .slice A m c)(hl:news.length=m*size)(hr:Sl w A news)(h1:∀u∈news,u.oneCell'=true)(h63:n+m<=maxLen)(hbytes:(n+m)*bytes<=140737488355328)(hbase:base<=w.heap.size)(h:∀v' w',w'.ownsRow base e size v' (n+m) (xs++news) ->w.grownBy w' v.ownBlock ->(v'.ownBlock=v.ownBlock\/v'.ownBlock=some w.heap.size) ->K (a.put o.dst v') w'):o.wp P a w K Q:=by
 obtain⟨v',w',y,r,q,p⟩:=Jb3 (P:=P) w base t o.type e i z size bytes ht hi hz hsize hby hzs hsz v n xs hown A m c news hl hr h1 h63 hbytes hbase;unfold Oper.wp execOp;simp only[ho,resolve,invoke,builtin,Sem.run_bind,Sem.run_pure,Result.andThen_ok,List.map_toArray,qbz,List.map_nil,hs,hx,y];exact h v' w' r q p
theorem Jap{ops:Array Oper}{rest:List Oper}{o:Oper}{a:Act}{Q:Exit ->Act ->World ->Prop}(hgd:o.guard=none)(s x:Operand)(t:TypeId)(ho:o.op= .call {callee:= .builtin .append,args:=#[s,x],argTypes:=#[t,t]})(base:Nat)(e:TypeId)(i:TypeInfo)(z:Value)(size bytes:Nat)(ht:P.underlying t=some (.slice e))(hi:P.info? e=some i)(hz:i.zero=some z)(hsize:i.size=size)(hby:i.bytes=bytes)(hzs:z.cells.size=size)(hsz:0<size)(v:Value)(n:Nat)(xs:List Value)(hs:a.eval s=v)(hown:w.ownsRow base e size v n xs)(A:Option Addr)(m c:Nat)(news:List Value)(hx:a.eval x= .slice A m c)(hl:news.length=m*size)(hr:Sl w A news)(h1:∀u∈news,u.oneCell'=true)(h63:n+m<=maxLen)(hbytes:(n+m)*bytes<=140737488355328)(hbase:base<=w.heap.size)(h:∀v' w',w'.ownsRow base e size v' (n+m) (xs++news) ->w.grownBy w' v.ownBlock ->(v'.ownBlock=v.ownBlock\/v'.ownBlock=some w.heap.size) ->wpList P ops Q rest (a.put o.dst v') w'):wpList P ops Q (o::rest) a w:=
 wpList_plain hgd fun _ hK=>Jjd w s x t ho base e i z size bytes ht hi hz hsize hby hzs hsz v n xs hs hown A m c news hx hl hr h1 h63 hbytes hbase fun v' w' h2 h3 h4=>hK _ _ (h v' w' h2 h3 h4)
theorem Jb6{ops:Array Oper}{o:Oper}{a:Act}{K:Act ->World ->Prop}{Q:Exit ->Act ->World ->Prop}{E:Prop}(hgd:o.guard=none)(s x:Operand)(t:TypeId)(ho:o.op= .call {callee:= .builtin .append,args:=#[s,x],argTypes:=#[t,t]})(base:Nat)(e:TypeId)(i:TypeInfo)(z:Value)(size bytes:Nat)(ht:P.underlying t=some (.slice e))(hi:P.info? e=some i)(hz:i.zero=some z)(hsize:i.size=size)(hby:i.bytes=bytes)(hzs:z.cells.size=size)(hsz:0<size)(v:Value)(n:Nat)(xs:List Value)(hs:a.eval s=v)(hown:w.ownsRow base e size v n xs)(A:Option Addr)(m c:Nat)(news:List Value)(hx:a.eval x= .slice A m c)(hl:news.length=m*size)(hr:Sl w A news)(h1:∀u∈news,u.oneCell'=true)(h63:n+m<=maxLen)(hbytes:(n+m)*bytes<=140737488355328)(hbase:base<=w.heap.size)(h:∀v' w',w'.ownsRow base e size v' (n+m) (xs++news) ->w.grownBy w' v.ownBlock ->(v'.ownBlock=v.ownBlock\/v'.ownBlock=some w.heap.size) ->K (a.put o.dst v') w'):
  if Region.wanted o (yielded ops a.tmps)=true then Oper.wp P o a w K Q else E:=by
 have y:Region.wanted o (yielded ops a.tmps)=true:=by simp[Region.wanted,hgd]
 rw[qa0 y];exact Jjd w s x t ho base e i z size bytes ht hi hz hsize hby hzs hsz v n xs hs hown A m c news hx hl hr h1 h63 hbytes hbase h
end
open Go.ChangeShapes Go.Deep Go.WideShapes
theorem Jkb{α:Type}{P:Nat ->α ->Prop}:∀ (n:Nat),(∀i,i<n ->∃x,P i x) ->∃l:List α,l.length=n/\∀i (h:i<l.length),P i l[i]
 | 0,_=>⟨[],rfl,fun i h=>by simp at h⟩
 | n +1,h=>by
   obtain⟨l,z,w⟩:=Jkb n (fun i hi=>h i (by omega));obtain⟨x,y⟩:=h n (by omega);refine⟨l++[x],by simp[z],fun i hi=> ?_⟩;by_cases e:i<l.length
   · rw[qdn e];exact w i e
   · have:i=l.length:=by simp at hi;omega
     subst this;simp[z] at y ⊢;exact y
theorem addr_add(b off k:Nat):(⟨b,off,none⟩:Addr).add k=⟨b,off+k,none⟩:=by
 unfold Addr.add;split
 · next e=>subst e;rfl
 · rfl
section
variable {H:Type} {enc:TypeId×Value ->H} {P:Program} {w:World} {base:Nat} {spare:Nat ->Bool} {held:Bool}
theorem Jo8{t e:TypeId}{A:Option Addr}{n c:Nat}{d:DataW H}{p:List MemPlace}(ht:P.underlying t=some (.slice e))(hC:0<P.cellsOf e)(h:DataW.Trod enc P w base spare held t (.slice A n c) d p):n<=maxLen/\∀i,i<n ->∃b off cs m y,A=some ⟨b,off,none⟩/\b<w.heap.size/\cs.length=P.cellsOf e/\
    (∀j u,cs[j]? =some u ->w.cell? ⟨b,off+(i*P.cellsOf e+j),none⟩=some u)/\DataW.trod enc P w base spare held m e cs=some y:=by
 obtain⟨fuel,g⟩:=h;rcases open_slice ht g with⟨z,_⟩ | ⟨a,len,cap,m,k,D,Pl,z,_,Z,Y,x,_,r⟩
 · simp[Value.cells] at z
   obtain⟨rfl,rfl,rfl⟩:=z;exact⟨by decide,fun i r=>absurd r (by omega)⟩
 · simp[Value.cells] at z
   obtain⟨rfl,rfl,rfl⟩:=z;refine⟨by omega,fun i hin=> ?_⟩
   have l:a.spot=none:=by
    obtain⟨cs,q,_⟩:=r 0 (by rw[x];split<;>omega)
    obtain⟨_,v,hat⟩:=World.cells?_some q;have s:=hat 0 hC;rw[qah (by omega)] at s;have:=World.cell?_spot s
    simpa[Addr.add] using this
   obtain⟨b,off,sp⟩:=a;simp only at l;subst l;obtain⟨cs,q,o⟩:=r i (by rw[x];split<;>omega)
   obtain⟨_,v,hat⟩:=World.cells?_some q;have s:=hat 0 hC;rw[qah (by omega),addr_add,addr_add] at s;refine⟨b,off,cs,k,_,rfl,block_lt_of_cell s,v,fun j u hj=> ?_,o⟩;have f:j<cs.length:=(qbs.1 hj).1;have:=hat j (by omega);rw[hj,addr_add,addr_add,qcd] at this;exact this
end
open Go.ChangeAt
structure Ti where
 nm:ByteArray
 ev:Int
 kp:Int
 sh:Int
def Ti.cells (t:Ti):List Value:=[t.nm,(t.ev:Int),(t.kp:Int),(t.sh:Int)]
structure Ti.Ok (t:Ti):Prop where
 nm:t.nm.size<=maxLen
 ev: -9223372036854775808<=t.ev/\t.ev<=9223372036854775807
 kp: -9223372036854775808<=t.kp/\t.kp<=9223372036854775807
 sh: -9223372036854775808<=t.sh/\t.sh<=9223372036854775807
theorem J6g(t:Ti):t.cells.length=4:=rfl
theorem J6h(t:Ti):∀v∈t.cells,v.oneCell'=true:=by
 intro v z;simp[Ti.cells] at z;rcases z with rfl | rfl | rfl | rfl<;>rfl
theorem J6t(l:List Ti):∀u∈l.flatMap Ti.cells,u.oneCell'=true:=by
 intro u z;obtain⟨r,_,y⟩:=qcs.1 z;exact J6h r u y
structure Tis (w:World) (A:Option Addr) (n:Nat) (l:List Ti):Prop where
 sl:Sl w A (l.flatMap Ti.cells)
 len:l.length=n
 n_le:n<=maxLen
 ok:∀t∈l,t.Ok
structure J6u (w:World) (b off:Nat) (t:Ti):Prop where
 c0:w.cell? ⟨b,off,none⟩=some (.string t.nm)
 c1:w.cell? ⟨b,off+1,none⟩=some (.int .i64 t.ev)
 c2:w.cell? ⟨b,off+2,none⟩=some (.int .i64 t.kp)
 c3:w.cell? ⟨b,off+3,none⟩=some (.int .i64 t.sh)
theorem Tis.get{w:World}{A:Option Addr}{n:Nat}{l:List Ti}(h:Tis w A n l){j:Nat}(hj:j<l.length):∃b off,A=some ⟨b,off,none⟩/\b<w.heap.size/\J6u w b (off+j*4) l[j]:=by
 have y:l.flatMap Ti.cells≠[]:=by
  cases l with
  | nil=>simp at hj
  | cons a r=>simp[Ti.cells]
 obtain⟨b,off,e,x,z⟩:=h.sl.at_ y;have g:=fun q hq=>Jdh J6g l j hj q hq;have c0:=z (j*4+0) _ (g 0 (by omega));have c1:=z (j*4+1) _ (g 1 (by omega));have c2:=z (j*4+2) _ (g 2 (by omega));have c3:=z (j*4+3) _ (g 3 (by omega));rw[<- qcd] at c1 c2 c3;exact⟨b,off,e,x,c0,c1,c2,c3⟩
theorem Tis.below{w w':World}{A:Option Addr}{n:Nat}{l:List Ti}(h:Tis w A n l)(hb:Below w.heap.size w w'):Tis w' A n l:=⟨h.sl.below hb,h.len,h.n_le,h.ok⟩
theorem Jts{w:World}{B:Nat}{e:TypeId}{k:Nat}{v:Value}{n:Nat}{xs:List Value}(h:w.ownsRow B e k v n xs):∃A c,v= .slice A n c/\Sl w A xs:=by
 rcases h.2 with⟨rfl,rfl⟩ | ⟨g,cap,cur,rfl,_,y,_,_,_,x⟩
 · have:xs=[]:=qa5 (by simpa using h.1)
   subst this;exact⟨none,0,rfl,Sl.nil _ _⟩
 · refine⟨some ⟨g,0,none⟩,cap,rfl,⟨fun _=>⟨g,0,rfl,qcb y,fun j u hu=> ?_⟩⟩⟩
   have z:=(qbs.1 hu).1;rw[h.1] at z;rw[qa7,h.cellAt j z];exact hu
theorem Jis{w:World}{B:Nat}{v:Value}{n:Nat}{l:List Ti}(h:w.ownsRow B 167 4 v n (l.flatMap Ti.cells))(hl:l.length=n)(hok:∀t∈l,t.Ok)(hn:n<=maxLen):∃A c,v= .slice A n c/\Tis w A n l:=by
 obtain⟨A,c,e,z⟩:=Jts h;exact⟨A,c,e,z,hl,hn,hok⟩
theorem Jkc{w:World}{B B':Nat}{e:TypeId}{k n:Nat}{v:Value}{xs:List Value}(h:w.ownsRow B e k v n xs)(hb:B'<=B):w.ownsRow B' e k v n xs:=
 ⟨h.1,h.2.imp id fun ⟨g,cap,cur,a,b,c⟩=>⟨g,cap,cur,a,qax hb b,c⟩⟩
theorem Jbz{w:World}{B:Nat}{e:TypeId}{k n:Nat}{v:Value}{xs:List Value}(h:w.ownsRow B e k v n xs){p:Addr}(hp:∀g,v.ownBlock=some g ->g≠p.block)(u:Value):(w.setCell p u).ownsRow B e k v n xs:=by
 have z:w.grownBy (w.setCell p u) (some p.block):=⟨rfl,rfl,rfl,by simp,fun j _ hne=>qdi w p u j (fun e=>hne (by rw[e]))⟩;refine h.kept z ?_;cases hv:v.ownBlock with
 | none=>exact .inl rfl
 | some g=>exact .inr fun e=>hp g hv (by injection e)
theorem Jo9:(Tryz.prog.info? 167).map (fun i=>(i.zero,i.size,i.bytes))=some (some (.agg #[ByteArray.empty,(0:Int),(0:Int),(0:Int)]),4,40):=by kernel_rfl
theorem J6v(k:IntKind)(zs:List Int):∀u∈zs.map (Value.int k),u.oneCell'=true:=by
 intro u y;obtain⟨z,_,rfl⟩:=qbn.1 y;rfl
theorem Jvt(A:Option Addr)(n c:Nat)(l:List Ti)(w:World)(h:Tis w A n l)(hn:n<=1000000):
  Cs 258 #[.slice A n c] w fun e w'=>∃v,e= .returned v/\w'.ownsRow w.heap.size 167 4 v n (l.flatMap Ti.cells)/\Below w.heap.size w w':=by
 have i:=fun (W:World) (a:Option Addr) (n c n' c':Nat)=>Lib.run_eql_slice_nil (P:=Tryz.prog) W _ _ a n c n' c' Tryz.underlying99;obtain⟨i0,r,x,u,t⟩:=qb2 Jo9;have q:=zI (show(l.flatMap Ti.cells).length=n*4 from by rw[Jca J6g,h.len]);have p:=zI (h.sl.alloc (.cells #[] 167));cases A with
 | none=>
   have y:n=0:=by
    rcases Nat.eq_zero_or_pos n with y | y
    · exact y
    · obtain⟨b,off,e,_⟩:=h.get (j:=0) (by rw[h.len];exact y)
      cases e
   subst y;have o:l=[]:=qa5 h.len;subst o;go_enter Tryz.func258,Tryz.ntmps258;go_wp2;go_ret;exact⟨_,rfl,qaz _ _ _ _,qaa _ _⟩
 | some ad=>
   clear h;go_enter Tryz.func258,Tryz.ntmps258;go_wp2_with (at_builtin;refine Jap _ rfl _ _ 99 rfl w.heap.size 167 i0 _ 4 40 Tryz.underlying99 r x u t rfl (by decide) (.slice (some ⟨w.heap.size,0,none⟩) 0 0) 0 [] rfl (World.ownsRow_made w #[] 0 (qab _) (qaq _) (by simp)) (some ad) n c _ rfl q.out p.out (J6t l) ?c4 ?c5 ?c6 ?_;(unfold maxLen;omega);(omega);(simp);intro v' w1 z s _)
   go_ret;refine⟨_,rfl,by simpa using z,((qaa _ w).alloc (qab _) _).grown s (by simp) (by intro k m;simp[Value.ownBlock] at m;omega)⟩
theorem own_ints{w:World}{B:Nat}{v:Value}{n:Nat}{zs:List Int}(h:w.ownsRow B 3 1 v n (zs.map (Value.int .i64)))(hl:zs.length=n)(hok:∀z∈zs,(Lit.int .i64 z).wf=true)(hn:n<=maxLen):∃A c,v= .slice A n c/\Ints w .i64 A n zs:=by
 obtain⟨A,c,e,y⟩:=Jts h;exact⟨A,c,e,y,hl,hn,hok⟩
abbrev polV (nm:ByteArray) (A:Option Addr) (n c:Nat):Value:= .agg #[nm,.slice A n c]
theorem Jpa(nm:ByteArray)(A:Option Addr)(n c:Nat)(l:List Ti)(w:World)(h:Tis w A n l)(hn:n<=1000000):
  Cs 171 #[polV nm A n c] w fun e w'=>∃A' c',e= .returned (polV nm A' n c')/\w'.ownsRow w.heap.size 167 4 (.slice A' n c') n (l.flatMap Ti.cells)/\Below w.heap.size w w':=by
 have b0:=Bx.new w 101 #[nm,.slice A n c];have b1:=Bx.new (w.alloc (.cells #[nm,.slice A n c] 101)) 101 #[ByteArray.empty,()];rw[show(w.alloc (.cells #[nm,.slice A n c] 101)).heap.size=w.heap.size+1 from by simp] at b1;have b0':=b0.alloc (.cells #[ByteArray.empty,()] 101);have q:Below w.heap.size w ((w.alloc (.cells #[nm,.slice A n c] 101)).alloc (.cells #[ByteArray.empty,()] 101)):=((qaa _ _).alloc (qab _) _).alloc (by simp) _;have j:=Jvt A n c l _ (h.below q) hn;have i:=zI j;clear j b0;go_enter Tryz.func171,Tryz.ntmps171;go_wp2_with fail
 refine i.out.mono ?_;rintro e w2 ⟨v,rfl,z,u⟩;have p0:=b0'.below u;have p1:=b1.below u;have q0:=p0.at_ 0 rfl;have q1:=p0.at_ 1 rfl;have f1:=p0.free 1;have r0:=p1.at_ 0 rfl;have r1:=p1.at_ 1 rfl;have g0:=p1.free 0;have g1:=p1.free 1;have o:=q.trans (u.mono q.size);obtain⟨A',c',rfl,d⟩:=Jts z;have s:=z.lt;have m:=zI s;have f:=zI z;clear s z b0' b1 i;go_wp2;have X:=(((p1.other (p:=⟨w.heap.size,1,none⟩) (by simp) (.slice A' n c')).set 0 nm).set 1 (.slice A' n c'));have x0:=X.at_ 0 rfl;have x1:=X.at_ 1 rfl;have x:Below w.heap.size w (((w2.setCell ⟨w.heap.size,1,none⟩ (.slice A' n c')).setCell ⟨w.heap.size+1,0,none⟩ nm).setCell ⟨w.heap.size+1,1,none⟩ (.slice A' n c')):=((o.setCell (by simp) _).setCell (by simp) _).setCell (by simp) _
 have y:(((w2.setCell ⟨w.heap.size,1,none⟩ (.slice A' n c')).setCell ⟨w.heap.size+1,0,none⟩ nm).setCell ⟨w.heap.size+1,1,none⟩ (.slice A' n c')).ownsRow w.heap.size 167 4 (.slice A' n c') n (l.flatMap Ti.cells):=by
  have t:∀k,k<w.heap.size+2 ->∀g,(Value.slice A' n c').ownBlock=some g ->g≠k:=fun k hk g hg e=>by have:=(m.out g hg).1;simp at this;omega
  refine Jkc ?_ (qax (Nat.le_add_right _ 2) (qab _));have r:=f.out;simp only[qdo] at r;exact Jbz (Jbz (Jbz r (fun g hg=>t _ (by simp) g hg) _) (fun g hg=>t _ (by simp) g hg) _) (fun g hg=>t _ (by simp) g hg) _
 generalize (((w2.setCell ⟨w.heap.size,1,none⟩ (.slice A' n c')).setCell ⟨w.heap.size+1,0,none⟩ nm).setCell ⟨w.heap.size+1,1,none⟩ (.slice A' n c'))=W at x0 x1 x y ⊢;exact qa6 (v:=polV nm A' n c') (by simp[results,Tryz.results171,go_sem,x0,x1]) rfl ⟨A',c',rfl,y,x⟩
end Go.Proofs.YtglmhddbhhcjdaaGreatDoor
namespace Go.Proofs.YtglmhddbhhcjdaaGreatDoor
open Go.RowKit
theorem Jtt{a b:World}(h:Below a.heap.size a b)(row:Option Nat):a.grownBy b row:=⟨h.os,h.tape,h.output,h.size,fun i hi _=>h.block i hi⟩
theorem Jaf{w w':World}{B:Nat}{e:TypeId}{k:Nat}{v:Value}{n:Nat}{xs:List Value}(h:w.ownsRow B e k v n xs)(hb:Below w.heap.size w w'):w'.ownsRow B e k v n xs:=
 h.kept (Jtt hb none) (by cases v.ownBlock<;>simp)
theorem Jao{w:World}{B:Nat}{e:TypeId}{k:Nat}{v:Value}{n:Nat}{xs:List Value}(h:w.ownsRow B e k v n xs):∃A c,v= .slice A n c/\Sl w A xs:=by
 rcases h.2 with⟨rfl,rfl⟩ | ⟨g,cap,cur,rfl,_,y,_,_,_,x⟩
 · have:xs=[]:=qa5 (by simpa using h.1)
   subst this;exact⟨none,0,rfl,Sl.nil _ _⟩
 · refine⟨some ⟨g,0,none⟩,cap,rfl,⟨fun _=>⟨g,0,rfl,qcb y,fun j u hu=> ?_⟩⟩⟩
   have z:=(qbs.1 hu).1;rw[h.1] at z;rw[qa7,h.cellAt j z];exact hu
theorem Jde{w:World}{B B':Nat}{e:TypeId}{k n:Nat}{v:Value}{xs:List Value}(h:w.ownsRow B e k v n xs)(hb:B'<=B):w.ownsRow B' e k v n xs:=
 ⟨h.1,h.2.imp id fun ⟨g,cap,cur,a,b,c⟩=>⟨g,cap,cur,a,qax hb b,c⟩⟩
theorem Jc0{w:World}{B:Nat}{e:TypeId}{k:Nat}{v:Value}{n:Nat}{xs:List Value}(h:w.ownsRow B e k v n xs){b:Nat}(hb:v.ownBlock=some b):∃cur,w.heap[b]? =some (.cells cur e (0,0)):=by
 rcases h.2 with⟨rfl,_⟩ | ⟨g,cap,cur,rfl,_,z,_⟩
 · simp[Value.ownBlock] at hb
 · simp[Value.ownBlock] at hb;subst hb;exact⟨cur,z⟩
theorem Jhq{w:World}{B B':Nat}{e e':TypeId}{k k':Nat}{v v':Value}{n n':Nat}{xs xs':List Value}(h:w.ownsRow B e k v n xs)(h':w.ownsRow B' e' k' v' n' xs')(hne:e≠e'):v.ownBlock=none\/v.ownBlock≠v'.ownBlock:=by
 cases hv:v.ownBlock with
 | none=>exact .inl rfl
 | some b=>
   refine .inr fun e2=> ?_;obtain⟨c,y⟩:=Jc0 h hv;obtain⟨c',z⟩:=Jc0 h' e2.symm;rw[y] at z;injection z with z;injection z with _ e3;exact hne e3
theorem Bx.not_row{w:World}{g:Nat}{T:TypeId}{cs:Array Value}(h:Bx w g T cs){B:Nat}{e:TypeId}{k:Nat}{v:Value}{n:Nat}{xs:List Value}(h':w.ownsRow B e k v n xs)(hne:T≠e):some g≠v.ownBlock:=by
 intro e2;obtain⟨c',z⟩:=Jc0 h' e2.symm;rw[h.blk] at z;injection z with z;injection z with _ e3;exact hne e3
structure Jpb (B:Nat) (T:TypeId) (w w':World):Prop where
 os:w'.os=w.os
 tape:w'.tape=w.tape
 output:w'.output=w.output
 size:w.heap.size<=w'.heap.size
 block:∀b,b<w.heap.size ->(b<B\/∀cs fr,w.heap[b]? ≠some (.cells cs T fr)) ->w'.heap[b]? =w.heap[b]?
theorem Jpb.of_grown{B:Nat}{T:TypeId}{w w':World}{row:Option Nat}(h:w.grownBy w' row)(hr:∀b,row=some b ->B<=b/\∃cs fr,w.heap[b]? =some (.cells cs T fr)):Jpb B T w w':=
 ⟨h.os,h.tape,h.output,h.size,fun i hi z=>h.block i hi fun e=>by
  obtain⟨x,cs,fr,y⟩:=hr i e.symm;rcases z with z | z
  · omega
  · exact z cs fr y⟩
theorem Jpb.row{B:Nat}{T:TypeId}{w w':World}{k:Nat}{v:Value}{n:Nat}{xs:List Value}(h:w.grownBy w' v.ownBlock)(ho:w.ownsRow B T k v n xs):Jpb B T w w':=
 .of_grown h fun b hb=>⟨(ho.lt b hb).1,by obtain⟨c,z⟩:=Jc0 ho hb;exact⟨c,_,z⟩⟩
structure Jay (B g:Nat) (T:TypeId) (w w':World):Prop where
 os:w'.os=w.os
 tape:w'.tape=w.tape
 output:w'.output=w.output
 size:w.heap.size<=w'.heap.size
 block:∀b,b<w.heap.size ->b≠g ->(b<B\/∀cs fr,w.heap[b]? ≠some (.cells cs T fr)) ->w'.heap[b]? =w.heap[b]?
theorem Jay.below{B B' g:Nat}{T:TypeId}{w w':World}(h:Jay B g T w w')(h1:B'<=B)(h2:B'<=g)(h3:B'<=w.heap.size):Below B' w w':=⟨h.os,h.tape,h.output,h.size,fun b hb=>h.block b (by omega) (by omega) (.inl (by omega))⟩
theorem Jay.refl(B g:Nat)(T:TypeId)(w:World):Jay B g T w w:=⟨rfl,rfl,rfl,qab _,fun _ _ _ _=>rfl⟩
theorem Jay.trans{B g:Nat}{T:TypeId}{a b c:World}(h:Jay B g T a b)(k:Jay B g T b c):Jay B g T a c:=
 ⟨k.os.trans h.os,k.tape.trans h.tape,k.output.trans h.output,qax h.size k.size,fun i hi hg z=>by
  have e1:=h.block i hi hg z;refine(k.block i (qar hi h.size) hg ?_).trans e1;rcases z with z | z
  · exact .inl z
  · exact .inr fun cs fr=>by rw[e1];exact z cs fr⟩
theorem Jay.of_below{B g:Nat}{T:TypeId}{w w':World}(h:Below w.heap.size w w'):Jay B g T w w':=⟨h.os,h.tape,h.output,h.size,fun i hi _ _=>h.block i hi⟩
theorem Jay.row{B g:Nat}{T:TypeId}{w w':World}{k:Nat}{v:Value}{n:Nat}{xs:List Value}(h:w.grownBy w' v.ownBlock)(ho:w.ownsRow B T k v n xs):Jay B g T w w':=
 have s:=Jpb.row h ho
 ⟨s.os,s.tape,s.output,s.size,fun i hi _ hd=>s.block i hi hd⟩
theorem Jam(w:World)(g i:Nat)(v:Value):w.grownBy (w.setCell ⟨g,i,none⟩ v) (some g):=
 ⟨rfl,rfl,rfl,(KeepsWalks.setCell w _ v).size,fun k _ hk=>qdi _ _ _ k (fun e=>hk (by rw[e]))⟩
theorem Jay.set{B g:Nat}{T:TypeId}(w:World)(i:Nat)(v:Value):Jay B g T w (w.setCell ⟨g,i,none⟩ v):=
 have s:=Jam w g i v
 ⟨s.os,s.tape,s.output,s.size,fun i hi hg _=>s.block i hi (fun e=>hg (by cases e;rfl))⟩
