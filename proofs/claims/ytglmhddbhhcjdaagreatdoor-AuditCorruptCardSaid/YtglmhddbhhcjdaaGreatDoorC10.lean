/- Laws that the walk of the last text wants. -/
import Derived.Deep.DeepCutAuto
import Derived.Test.YtglmhddbhhcjdaaGreatDoorC4
set_option maxRecDepth 100000
set_option linter.unusedSimpArgs false
set_option maxHeartbeats 4000000
namespace Go.Proofs.YtglmhddbhhcjdaaGreatDoor
open Go.RowKit
theorem Jbd{a w w':World}{B:Nat}{e:TypeId}{k n:Nat}{v:Value}{xs:List Value}(h:w.ownsRow B e k v n xs)(hg:w.grownBy w' v.ownBlock)(hb:Below B a w)(hB:B<=w.heap.size):Below B a w':=
 hb.trans ⟨hg.os,hg.tape,hg.output,hg.size,fun b hlt=>hg.block b (by omega) (fun e=>by have:=(h.lt b e.symm).1;omega)⟩
theorem Jr9:(Tryz.prog.info? 142).map (fun i=>(i.zero,i.size,i.bytes))=some (some (.agg #[ByteArray.empty,(0:Int),(0:Int),(0:Int),.int .u64 0,(0:Int),(0:Int)]),7,64):=by kernel_rfl
theorem Kau{w:World}{base:Nat}{v:Value}{n:Nat}{xs:List Value}(h:w.ownsRow base 142 7 v n xs)(A:Option Addr)(m c:Nat)(news:List Value)(hl:news.length=m*7)(hs:Sl w A news)(h1:∀u∈news,u.oneCell'=true)(hn:n+m<=1000000)(hb:base<=w.heap.size):
  ∃v' w',(Builtin.append_ #[43,43] 43 #[v,.slice A m c]).run Tryz.prog w= .ok v' w'/\w'.ownsRow base 142 7 v' (n+m) (xs++news)/\w.grownBy w' v.ownBlock:=by
 obtain⟨i0,t,z,y,x⟩:=qb2 Jr9;obtain⟨v',w',r1,r2,r3,_⟩:=Jb3 (P:=Tryz.prog) w base 43 43 142 i0 _ 7 64 Tryz.underlying43 t z y x rfl (by decide) v n xs h A m c news hl hs h1 (by unfold maxLen;omega) (by omega) hb;exact⟨v',w',r1,r2,r3⟩
theorem Jtz:(Tryz.prog.info? 9).map (fun i=>(i.zero,i.size,i.bytes))=some (some (.string ByteArray.empty),1,16):=by kernel_rfl
theorem Kah{w:World}{base:Nat}{v:Value}{n:Nat}{xs:List Value}(h:w.ownsRow base 9 1 v n xs)(A:Option Addr)(m c:Nat)(news:List Value)(hl:news.length=m*1)(hs:Sl w A news)(h1:∀u∈news,u.oneCell'=true)(hn:n+m<=1000000)(hb:base<=w.heap.size):
  ∃v' w',(Builtin.append_ #[23,23] 23 #[v,.slice A m c]).run Tryz.prog w= .ok v' w'/\w'.ownsRow base 9 1 v' (n+m) (xs++news)/\w.grownBy w' v.ownBlock:=by
 obtain⟨i0,t,z,y,x⟩:=qb2 Jtz;obtain⟨v',w',r1,r2,r3,_⟩:=Jb3 (P:=Tryz.prog) w base 23 23 9 i0 _ 1 16 Tryz.underlying23 t z y x rfl (by decide) v n xs h A m c news hl hs h1 (by unfold maxLen;omega) (by omega) hb;exact⟨v',w',r1,r2,r3⟩
theorem Jgi:(Tryz.prog.info? 3).map (fun i=>(i.zero,i.size,i.bytes))=some (some (.int .i64 0),1,8):=by kernel_rfl
theorem Kai{w:World}{base:Nat}{v:Value}{n:Nat}{xs:List Value}(h:w.ownsRow base 3 1 v n xs)(A:Option Addr)(m c:Nat)(news:List Value)(hl:news.length=m*1)(hs:Sl w A news)(h1:∀u∈news,u.oneCell'=true)(hn:n+m<=1000000)(hb:base<=w.heap.size):
  ∃v' w',(Builtin.append_ #[24,24] 24 #[v,.slice A m c]).run Tryz.prog w= .ok v' w'/\w'.ownsRow base 3 1 v' (n+m) (xs++news)/\w.grownBy w' v.ownBlock:=by
 obtain⟨i0,t,z,y,x⟩:=qb2 Jgi;obtain⟨v',w',r1,r2,r3,_⟩:=Jb3 (P:=Tryz.prog) w base 24 24 3 i0 _ 1 8 Tryz.underlying24 t z y x rfl (by decide) v n xs h A m c news hl hs h1 (by unfold maxLen;omega) (by omega) hb;exact⟨v',w',r1,r2,r3⟩
theorem J3k:(Tryz.prog.info? 165).map (fun i=>(i.zero,i.size,i.bytes))=some (some (.pointer none),1,8):=by kernel_rfl
theorem Jt0:(Tryz.prog.info? 389).map (fun i=>(i.zero,i.size,i.bytes))=some (some (.agg #[.int .u64 0,(0:Int),(0:Int),(0:Int),(0:Int),(0:Int)]),6,48):=by kernel_rfl
theorem Kaj{w:World}{base:Nat}{v:Value}{n:Nat}{xs:List Value}(h:w.ownsRow base 389 6 v n xs)(A:Option Addr)(m c:Nat)(news:List Value)(hl:news.length=m*6)(hs:Sl w A news)(h1:∀u∈news,u.oneCell'=true)(hn:n+m<=1000000)(hb:base<=w.heap.size):
  ∃v' w',(Builtin.append_ #[387,387] 387 #[v,.slice A m c]).run Tryz.prog w= .ok v' w'/\w'.ownsRow base 389 6 v' (n+m) (xs++news)/\w.grownBy w' v.ownBlock:=by
 obtain⟨i0,t,z,y,x⟩:=qb2 Jt0;obtain⟨v',w',r1,r2,r3,_⟩:=Jb3 (P:=Tryz.prog) w base 387 387 389 i0 _ 6 48 Tryz.underlying387 t z y x rfl (by decide) v n xs h A m c news hl hs h1 (by unfold maxLen;omega) (by omega) hb;exact⟨v',w',r1,r2,r3⟩
theorem J3l:(Tryz.prog.info? 312).map (fun i=>(i.zero,i.size,i.bytes))=some (some (.agg #[.int .u64 0,(0:Int),(0:Int),(0:Int),(0:Int),()]),6,64):=by kernel_rfl
theorem Jku:(Tryz.prog.info? 316).map (fun i=>(i.zero,i.size,i.bytes))=some (some (.agg #[.int .u64 0,(0:Int),(0:Int),(0:Int),(0:Int),(),()]),7,88):=by kernel_rfl
theorem Kad{w:World}{base:Nat}{v:Value}{n:Nat}{xs:List Value}(h:w.ownsRow base 316 7 v n xs)(A:Option Addr)(m c:Nat)(news:List Value)(hl:news.length=m*7)(hs:Sl w A news)(h1:∀u∈news,u.oneCell'=true)(hn:n+m<=1000000)(hb:base<=w.heap.size):
  ∃v' w',(Builtin.append_ #[210,210] 210 #[v,.slice A m c]).run Tryz.prog w= .ok v' w'/\w'.ownsRow base 316 7 v' (n+m) (xs++news)/\w.grownBy w' v.ownBlock:=by
 obtain⟨i0,t,z,y,x⟩:=qb2 Jku;obtain⟨v',w',r1,r2,r3,_⟩:=Jb3 (P:=Tryz.prog) w base 210 210 316 i0 _ 7 88 Tryz.underlying210 t z y x rfl (by decide) v n xs h A m c news hl hs h1 (by unfold maxLen;omega) (by omega) hb;exact⟨v',w',r1,r2,r3⟩
theorem Jt1{ops:Array Oper}{rest:List Oper}{o:Oper}{a:Act}{Q:Exit ->Act ->World ->Prop}{w:World}{base:Nat}{v:Value}{n:Nat}{xs:List Value}(hgd:o.guard=none)(s x:Operand)(ho:o.op= .call {callee:= .builtin .append,args:=#[s,x],argTypes:=#[43,43]})(h:w.ownsRow base 142 7 v n xs)(hs:a.eval s=v)(A:Option Addr)(m c:Nat)(news:List Value)(hx:a.eval x= .slice A m c)(hl:news.length=m*7)(hsl:Sl w A news)(h1:∀u∈news,u.oneCell'=true)(hn:n+m<=1000000)(hb:base<=w.heap.size)(hK:∀A' c' w',w'.ownsRow base 142 7 (.slice A' (n+m) c') (n+m) (xs++news) ->w.grownBy w' v.ownBlock ->wpList Tryz.prog ops Q rest (a.put o.dst (.slice A' (n+m) c')) w'):wpList Tryz.prog ops Q (o::rest) a w:=by
 obtain⟨i0,q,z,y,t⟩:=qb2 Jr9;refine Jap (P:=Tryz.prog) w hgd s x 43 ho base 142 i0 _ 7 64 Tryz.underlying43 q z y t rfl (by decide) v n xs hs h A m c news hx hl hsl h1 (by unfold maxLen;omega) (by omega) hb ?_;intro v' w' r p _;obtain⟨A',c',rfl,_⟩:=Jao r;exact hK A' c' w' r p
theorem Jkv{ops:Array Oper}{rest:List Oper}{o:Oper}{a:Act}{Q:Exit ->Act ->World ->Prop}{w:World}{base:Nat}{v:Value}{n:Nat}{xs:List Value}(hgd:o.guard=none)(s x:Operand)(ho:o.op= .call {callee:= .builtin .append,args:=#[s,x],argTypes:=#[23,23]})(h:w.ownsRow base 9 1 v n xs)(hs:a.eval s=v)(A:Option Addr)(m c:Nat)(news:List Value)(hx:a.eval x= .slice A m c)(hl:news.length=m*1)(hsl:Sl w A news)(h1:∀u∈news,u.oneCell'=true)(hn:n+m<=1000000)(hb:base<=w.heap.size)(hK:∀A' c' w',w'.ownsRow base 9 1 (.slice A' (n+m) c') (n+m) (xs++news) ->w.grownBy w' v.ownBlock ->wpList Tryz.prog ops Q rest (a.put o.dst (.slice A' (n+m) c')) w'):wpList Tryz.prog ops Q (o::rest) a w:=by
 obtain⟨i0,q,z,y,t⟩:=qb2 Jtz;refine Jap (P:=Tryz.prog) w hgd s x 23 ho base 9 i0 _ 1 16 Tryz.underlying23 q z y t rfl (by decide) v n xs hs h A m c news hx hl hsl h1 (by unfold maxLen;omega) (by omega) hb ?_;intro v' w' r p _;obtain⟨A',c',rfl,_⟩:=Jao r;exact hK A' c' w' r p
theorem Jyd{ops:Array Oper}{rest:List Oper}{o:Oper}{a:Act}{Q:Exit ->Act ->World ->Prop}{w:World}{base:Nat}{v:Value}{n:Nat}{xs:List Value}(hgd:o.guard=none)(s x:Operand)(ho:o.op= .call {callee:= .builtin .append,args:=#[s,x],argTypes:=#[24,24]})(h:w.ownsRow base 3 1 v n xs)(hs:a.eval s=v)(A:Option Addr)(m c:Nat)(news:List Value)(hx:a.eval x= .slice A m c)(hl:news.length=m*1)(hsl:Sl w A news)(h1:∀u∈news,u.oneCell'=true)(hn:n+m<=1000000)(hb:base<=w.heap.size)(hK:∀A' c' w',w'.ownsRow base 3 1 (.slice A' (n+m) c') (n+m) (xs++news) ->w.grownBy w' v.ownBlock ->wpList Tryz.prog ops Q rest (a.put o.dst (.slice A' (n+m) c')) w'):wpList Tryz.prog ops Q (o::rest) a w:=by
 obtain⟨i0,q,z,y,t⟩:=qb2 Jgi;refine Jap (P:=Tryz.prog) w hgd s x 24 ho base 3 i0 _ 1 8 Tryz.underlying24 q z y t rfl (by decide) v n xs hs h A m c news hx hl hsl h1 (by unfold maxLen;omega) (by omega) hb ?_;intro v' w' r p _;obtain⟨A',c',rfl,_⟩:=Jao r;exact hK A' c' w' r p
theorem Jye{ops:Array Oper}{o:Oper}{a:Act}{K:Act ->World ->Prop}{Q:Exit ->Act ->World ->Prop}{E:Prop}{w:World}{base:Nat}{v:Value}{n:Nat}{xs:List Value}(hgd:o.guard=none)(s x:Operand)(ho:o.op= .call {callee:= .builtin .append,args:=#[s,x],argTypes:=#[24,24]})(h:w.ownsRow base 3 1 v n xs)(hs:a.eval s=v)(A:Option Addr)(m c:Nat)(news:List Value)(hx:a.eval x= .slice A m c)(hl:news.length=m*1)(hsl:Sl w A news)(h1:∀u∈news,u.oneCell'=true)(hn:n+m<=1000000)(hb:base<=w.heap.size)(hK:∀A' c' w',w'.ownsRow base 3 1 (.slice A' (n+m) c') (n+m) (xs++news) ->w.grownBy w' v.ownBlock ->K (a.put o.dst (.slice A' (n+m) c')) w'):
  if Region.wanted o (yielded ops a.tmps)=true then Oper.wp Tryz.prog o a w K Q else E:=by
 obtain⟨i0,q,z,y,t⟩:=qb2 Jgi;refine Jb6 (P:=Tryz.prog) w hgd s x 24 ho base 3 i0 _ 1 8 Tryz.underlying24 q z y t rfl (by decide) v n xs hs h A m c news hx hl hsl h1 (by unfold maxLen;omega) (by omega) hb ?_;intro v' w' r p _;obtain⟨A',c',rfl,_⟩:=Jao r;exact hK A' c' w' r p
theorem Jyf{ops:Array Oper}{o:Oper}{a:Act}{K:Act ->World ->Prop}{Q:Exit ->Act ->World ->Prop}{E:Prop}{w:World}{base:Nat}{v:Value}{n:Nat}{xs:List Value}(hgd:o.guard=none)(s x:Operand)(ho:o.op= .call {callee:= .builtin .append,args:=#[s,x],argTypes:=#[162,162]})(h:w.ownsRow base 165 1 v n xs)(hs:a.eval s=v)(A:Option Addr)(m c:Nat)(news:List Value)(hx:a.eval x= .slice A m c)(hl:news.length=m*1)(hsl:Sl w A news)(h1:∀u∈news,u.oneCell'=true)(hn:n+m<=1000000)(hb:base<=w.heap.size)(hK:∀A' c' w',w'.ownsRow base 165 1 (.slice A' (n+m) c') (n+m) (xs++news) ->w.grownBy w' v.ownBlock ->K (a.put o.dst (.slice A' (n+m) c')) w'):
  if Region.wanted o (yielded ops a.tmps)=true then Oper.wp Tryz.prog o a w K Q else E:=by
 obtain⟨i0,q,z,y,t⟩:=qb2 J3k;refine Jb6 (P:=Tryz.prog) w hgd s x 162 ho base 165 i0 _ 1 8 Tryz.underlying162 q z y t rfl (by decide) v n xs hs h A m c news hx hl hsl h1 (by unfold maxLen;omega) (by omega) hb ?_;intro v' w' r p _;obtain⟨A',c',rfl,_⟩:=Jao r;exact hK A' c' w' r p
theorem Jsa{ops:Array Oper}{rest:List Oper}{o:Oper}{a:Act}{Q:Exit ->Act ->World ->Prop}{w:World}{base:Nat}{v:Value}{n:Nat}{xs:List Value}(hgd:o.guard=none)(s x:Operand)(ho:o.op= .call {callee:= .builtin .append,args:=#[s,x],argTypes:=#[387,387]})(h:w.ownsRow base 389 6 v n xs)(hs:a.eval s=v)(A:Option Addr)(m c:Nat)(news:List Value)(hx:a.eval x= .slice A m c)(hl:news.length=m*6)(hsl:Sl w A news)(h1:∀u∈news,u.oneCell'=true)(hn:n+m<=1000000)(hb:base<=w.heap.size)(hK:∀A' c' w',w'.ownsRow base 389 6 (.slice A' (n+m) c') (n+m) (xs++news) ->w.grownBy w' v.ownBlock ->wpList Tryz.prog ops Q rest (a.put o.dst (.slice A' (n+m) c')) w'):wpList Tryz.prog ops Q (o::rest) a w:=by
 obtain⟨i0,q,z,y,t⟩:=qb2 Jt0;refine Jap (P:=Tryz.prog) w hgd s x 387 ho base 389 i0 _ 6 48 Tryz.underlying387 q z y t rfl (by decide) v n xs hs h A m c news hx hl hsl h1 (by unfold maxLen;omega) (by omega) hb ?_;intro v' w' r p _;obtain⟨A',c',rfl,_⟩:=Jao r;exact hK A' c' w' r p
theorem Jyg{ops:Array Oper}{rest:List Oper}{o:Oper}{a:Act}{Q:Exit ->Act ->World ->Prop}{w:World}{base:Nat}{v:Value}{n:Nat}{xs:List Value}(hgd:o.guard=none)(s x:Operand)(ho:o.op= .call {callee:= .builtin .append,args:=#[s,x],argTypes:=#[205,205]})(h:w.ownsRow base 312 6 v n xs)(hs:a.eval s=v)(A:Option Addr)(m c:Nat)(news:List Value)(hx:a.eval x= .slice A m c)(hl:news.length=m*6)(hsl:Sl w A news)(h1:∀u∈news,u.oneCell'=true)(hn:n+m<=1000000)(hb:base<=w.heap.size)(hK:∀A' c' w',w'.ownsRow base 312 6 (.slice A' (n+m) c') (n+m) (xs++news) ->w.grownBy w' v.ownBlock ->wpList Tryz.prog ops Q rest (a.put o.dst (.slice A' (n+m) c')) w'):wpList Tryz.prog ops Q (o::rest) a w:=by
 obtain⟨i0,q,z,y,t⟩:=qb2 J3l;refine Jap (P:=Tryz.prog) w hgd s x 205 ho base 312 i0 _ 6 64 Tryz.underlying205 q z y t rfl (by decide) v n xs hs h A m c news hx hl hsl h1 (by unfold maxLen;omega) (by omega) hb ?_;intro v' w' r p _;obtain⟨A',c',rfl,_⟩:=Jao r;exact hK A' c' w' r p
theorem J3m{ops:Array Oper}{rest:List Oper}{o:Oper}{a:Act}{Q:Exit ->Act ->World ->Prop}{w:World}{base:Nat}{v:Value}{n:Nat}{xs:List Value}(hgd:o.guard=none)(s x:Operand)(ho:o.op= .call {callee:= .builtin .append,args:=#[s,x],argTypes:=#[210,210]})(h:w.ownsRow base 316 7 v n xs)(hs:a.eval s=v)(A:Option Addr)(m c:Nat)(news:List Value)(hx:a.eval x= .slice A m c)(hl:news.length=m*7)(hsl:Sl w A news)(h1:∀u∈news,u.oneCell'=true)(hn:n+m<=1000000)(hb:base<=w.heap.size)(hK:∀A' c' w',w'.ownsRow base 316 7 (.slice A' (n+m) c') (n+m) (xs++news) ->w.grownBy w' v.ownBlock ->wpList Tryz.prog ops Q rest (a.put o.dst (.slice A' (n+m) c')) w'):wpList Tryz.prog ops Q (o::rest) a w:=by
 obtain⟨i0,q,z,y,t⟩:=qb2 Jku;refine Jap (P:=Tryz.prog) w hgd s x 210 ho base 316 i0 _ 7 88 Tryz.underlying210 q z y t rfl (by decide) v n xs hs h A m c news hx hl hsl h1 (by unfold maxLen;omega) (by omega) hb ?_;intro v' w' r p _;obtain⟨A',c',rfl,_⟩:=Jao r;exact hK A' c' w' r p
end Go.Proofs.YtglmhddbhhcjdaaGreatDoor
namespace Go.Proofs.YtglmhddbhhcjdaaGreatDoor.Py
open Go.RowKit
theorem Jel(c:Int)(w:World)(h0:0<=c)(h1:c<=255):
  Cs 254 #[.int .u8 c] w (RS w (Jdt c)):=by
 by_cases a:97<=c<;>by_cases b:c<=122<;>by_cases d:48<=c<;>by_cases f:c<=57<;>by_cases g:c=46<;>by_cases i:c=95<;>by_cases j:c=45<;>try omega
 all_goals
  go_enter Tryz.func254,Tryz.ntmps254;go_wp2;go_ret
  first
   | exact⟨by rw[Jl5 (by omega)];rfl,rfl⟩
   | exact⟨Jal (by rw[Jo0 (by omega)];simp;omega),rfl⟩
theorem Jbj(A:Option Addr)(n c:Nat)(ss:List ByteArray)(w:World)(hn:n<=maxLen)(hl:ss.length=n)(hs:∀s∈ss,s.size<=maxLen)(hr:0<n ->∃b off,A=some ⟨b,off,none⟩/\∀i (h:i<ss.length),w.cell? ⟨b,off+i,none⟩=some (.string ss[i])):
  Cs 168 #[.slice A n c] w (RS w (ss.all fun s=>Jae s.toList)):=by
 unfold maxLen at hn hs;go_enter Tryz.func168,Tryz.ntmps168;go_wp2;go_loop [8] (fun i=>∃k:Nat,k<=n/\i= .int .i64 k/\((ss.take k).all fun s=>Jae s.toList)=true) (fun i=>n - (intOf i).toNat)
 case atStart=>exact⟨0,qaq _,rfl,rfl⟩
 case round =>
  obtain⟨k,W,rfl,y⟩:=hrel;have o:=zI y;clear y;by_cases g:k<n
  · obtain ⟨b,off,rfl,m⟩:=hr (by omega)
    have q:=m k (by omega);have f:=hs ss[k] (qan _);have p:Hid (ss.take (k+1)=ss.take k++[ss[k]]):=qam (by omega);clear m hs;have z:ss[k]∈ss:=qan _;generalize ss[k]'(by omega)=s at*;by_cases d:s.size<1
    · have u:=Jio (fun s:ByteArray=>Jae s.toList) ss s z (Je1 s (.inl d))
      have t:=zI u;clear u;go_wp2;go_ret;exact⟨Jal t.out.symm,rfl⟩
    · by_cases a:15<s.size
      · have u:=Jio (fun s:ByteArray=>Jae s.toList) ss s z (Je1 s (.inr a))
        have t:=zI u;clear u;go_wp2;go_ret;exact⟨Jal t.out.symm,rfl⟩
      · go_wp2
        go_loop [22] (fun i=>∃j:Nat,j<=s.size/\i= .int .i64 j/\Jbg (s.toList.take j)=true) (fun i=>s.size - (intOf i).toNat)
        case atStart=>exact⟨0,qaq _,rfl,rfl⟩
        case round=>
         obtain⟨j,V,rfl,x⟩:=hrel;have l:=zI x;clear x;by_cases r:j<s.size
         · have v:=zI (Jja s j r)
           have U:s[j].toNat<=255:=by have:=s[j].toNat_lt;omega
           cases hb:Jdt s[j].toNat
           · have t:=zI (Jio (fun s:ByteArray=>Jae s.toList) ss s z (Jo1 s (Jj6 s j r hb)))
             go_wp2_with (go_at_call 254;refine(Jel _ _ (by omega) (by omega)).mono ?_;rintro e w' ⟨rfl,rfl⟩)
             go_ret;exact⟨Jal t.out.symm,rfl⟩
           · have Z:Hid (Jbg (s.toList.take (j+1))=true):=by rw[v.out,l.out,hb];rfl
             go_wp2_with (go_at_call 254;refine(Jel _ _ (by omega) (by omega)).mono ?_;rintro e w' ⟨rfl,rfl⟩)
             go_round
             case rel=>exact⟨j+1,by omega,by go_num,Z.out⟩
             case measure=>simp[intOf];omega
         · have Y:Hid (Jae s.toList=true):=Jtj s (by omega) (by omega) (by rw[<- l.out,qap (by rw[Jac];omega)])
           go_wp2;go_round
           case rel=>exact⟨k+1,by omega,by go_num,Jtk (fun s:ByteArray=>Jae s.toList) ss k s p.out o.out Y.out⟩
           case measure=>simp[intOf];omega
  · go_wp2
    go_ret;exact⟨Jal (by rw[<- o.out,qap (by omega)]),rfl⟩
open Go.ChangeAt Go.ChangeShapes Go.Deep Go.WideShapes
def Jdx (t:Ti):Bool:= !Jae t.nm.toList || (decide (t.kp<1) || (decide (1000000<t.kp) || (decide (t.sh<1) || (decide (8<t.sh) || (decide (t.ev<1) || decide (1000000<t.ev))))))
def dupB (l:List Ti) (t:Ti):Bool:=l.any fun x=>x.nm.toList==t.nm.toList
theorem J3n(l:List Ti)(x t:Ti):dupB (l++[x]) t=(dupB l t || (x.nm.toList==t.nm.toList)):=by simp[dupB]
def Jpo (o t:Ti):Bool:=decide (t.ev<=o.ev) || (!(t.ev.tmod o.ev==0) || decide (t.kp<o.kp))
def Jcw (ts:List Ti) (i:Nat):Bool:=match ts[i]? with
 | none=>false
 | some t=>(Jdx t || dupB (ts.take i) t) || (if i=0 then !(t.ev==1) else match ts[i - 1]? with | none=>false | some o=>Jpo o t)
def checkR (nm:List UInt8) (ts:List Ti):Int×Int:=
 if (!Jae nm || (decide (ts.length<1) || decide (5<ts.length)))=true then (23,0) else
 match (List.range ts.length).find? (Jcw ts) with
 | some i=>(23,i+1)
 | none=>(0,0)
theorem Jv3{n:Nat}{p:Nat ->Bool}{j:Nat}(hj:j<n)(h:p j=true)(ha:∀i,i<j ->p i=false):(List.range n).find? p=some j:=by
 rw[List.find?_range_eq_some];exact⟨h,qce.2 hj,fun i hi=>by rw[ha i hi];rfl⟩
theorem J68{n:Nat}{p:Nat ->Bool}(ha:∀i,i<n ->p i=false):(List.range n).find? p=none:=by
 rw[List.find?_eq_none];intro i z;rw[ha i (qce.1 z)];simp
end Go.Proofs.YtglmhddbhhcjdaaGreatDoor.Py
namespace Go.Proofs.YtglmhddbhhcjdaaGreatDoor.Py
open Go.RowKit
theorem J69(w:World)(s:ByteArray)(o:Nat)(ho:o=w.heap.size):0<1 ->∃b off,(some (⟨o,0,none⟩:Addr))=some ⟨b,off,none⟩/\∀i (h:i<[s].length),(w.alloc (.cells #[s] 9)).cell? ⟨b,off+i,none⟩=some (.string [s][i]):=by
 intro _;subst ho;refine⟨_,_,rfl,fun i hi=> ?_⟩;have:i=0:=by simpa using hi
 subst this;exact qb4 _ _ 0 _ _ _ (qci w _)
theorem Jpp(s:ByteArray)(w:World)(hs:s.size<=maxLen)(c:Nat):Cs 168 #[.slice (some ⟨w.heap.size,0,none⟩) 1 c] (w.alloc (.cells #[s] 9)) fun e w'=>e= .returned (Jae s.toList)/\w.alloc (.cells #[s] 9)=w':=by
 have h:=Jbj (some ⟨w.heap.size,0,none⟩) 1 c [s] (w.alloc (.cells #[s] 9)) (by decide) rfl (fun x hx=>by rw[qa1.1 hx];exact hs) (J69 w s _ rfl)
 simpa using h
open Go.ChangeAt Go.ChangeShapes Go.Deep Go.WideShapes
def Jdy (n m:Int):Bool:=decide (1<=n) && decide (n<=m)
theorem Jbc(n m:Int)(w:World):Cs 169 #[(n:Int),(m:Int)] w (RS w (Jdy n m)):=by
 by_cases a:n≥1<;>by_cases b:n<=m
 all_goals
  go_enter Tryz.func169,Tryz.ntmps169;go_wp2;go_ret;exact⟨Jal (by unfold Jdy;simp[a,b]),rfl⟩
def Jec (a b:Int):Bool:=decide (1<=a) && (b.tmod a==0)
theorem Jkm(a b:Int)(w:World):Cs 257 #[(a:Int),(b:Int)] w (RS w (Jec a b)):=by
 by_cases h:a≥1
 · have z:=zI (show Jec a b=(b.tmod a==0) from by unfold Jec;rw[qaj h];rfl)
   have y:(a==0)=false:=qat.2 (by omega);have x:a≠0:=by omega
   go_enter Tryz.func257,Tryz.ntmps257;go_wp2;go_ret;exact⟨Jal (by rw[z.out]),rfl⟩
 · have z:=zI (show Jec a b=false from by unfold Jec;rw[qae (by omega)];rfl)
   go_enter Tryz.func257,Tryz.ntmps257;go_wp2;go_ret;exact⟨Jal z.out.symm,rfl⟩
theorem Jpq(x t:Ti)(B:Nat)(w:World)(h:w.cell? ⟨B,0,none⟩=some (.string t.nm))(hB:B<w.heap.size):
  Cs 256 #[.agg #[x.nm,(x.ev:Int),(x.kp:Int),(x.sh:Int)],B] w (RB w (x.nm.toList==t.nm.toList)):=by
 have z:=(qb0 (o:= .cells #[x.nm,(x.ev:Int),(x.kp:Int),(x.sh:Int)] 167) B 0 hB).trans h;go_enter Tryz.func256,Tryz.ntmps256;go_wp2;go_ret;exact⟨rfl,(qaa _ _).alloc (qab _) _⟩
theorem Jv4(A:Option Addr)(n c:Nat)(l:List Ti)(t:Ti)(B:Nat)(w:World)(hA:Tis w A n l)(h:w.cell? ⟨B,0,none⟩=some (.string t.nm))(hB:B<w.heap.size):
  Cs 319 #[.slice A n c,.func (.func 256) #[] #[B]] w fun e w'=>(∃i:Int,e= .returned (i:Int)/\(0<=i↔dupB l t=true)/\ -1<=i/\i<=n)/\Below w.heap.size w w':=by
 have g:=hA.n_le;unfold maxLen at g;have m:=zI hA.len;go_enter Tryz.func319,Tryz.ntmps319;go_wp2;obtain⟨w6,r⟩:=exE w;subst r;go_loopw [5,8] (fun _ i wr=>∃j:Nat,j<=n/\i= .int .i64 j/\Below w6.heap.size w6 wr/\Hid (dupB (l.take j) t=false)) (fun _ i _=>n - (intOf i).toNat)
 case atStart=>exact⟨0,qaq _,rfl,qaa _ _,zI rfl⟩
 case round=>
  obtain⟨j,b,rfl,z,k⟩:=hrel;by_cases q:j<n
  · have K:j<l.length:=by rw[m.out];exact q
    obtain⟨g1,o1,rfl,a,X⟩:=(hA.below z).get K;obtain⟨r0,r1,r2,r3⟩:=X;have f:=zI (show l.take (j+1)=l.take j++[l[j]'K] from qam K);have d:=zI (show l[j]'K∈l from qan K);generalize l[j]'K=x at*;have y:=(z.cell (p:=⟨B,0,none⟩) hB).trans h;have o:B<wr.heap.size:=qar hB z.size;have s:=zI (Jpq x t B wr y o);have g0:(0:Int)<=(j:Int):=(by omega);have g1:(j:Int)<(n:Int):=(by omega);cases he:(x.nm.toList==t.nm.toList)
    · have u:=zI (show dupB (l.take (j+1)) t=false from by rw[f.out,J3n,k.out,he];rfl)
      rw[he] at s;go_wp2_with (go_at_call 256;refine s.out.mono ?_;rintro e w1 ⟨rfl,v⟩)
      go_roundw
      case rel=>exact⟨j+1,by omega,by go_num,z.trans (v.mono z.size),u⟩
      case measure=>simp[intOf];omega
    · have u:=zI (show dupB l t=true from List.any_eq_true.2 ⟨x,d.out,he⟩)
      rw[he] at s;go_wp2_with (go_at_call 256;refine s.out.mono ?_;rintro e w1 ⟨rfl,v⟩)
      go_ret;exact⟨⟨j,rfl,by rw[u.out];simp,by omega,by omega⟩,z.trans (v.mono z.size)⟩
  · have Z:decide ((j:Int)<(n:Int))=false:=qae (by omega)
    have u:=zI (show dupB l t=false from by have:=k.out;rwa [qap (by rw[m.out];omega)] at this);go_wp2;go_ret;exact⟨⟨-1,rfl,by rw[u.out];simp,by omega,by omega⟩,z⟩
theorem Jny(A:Option Addr)(n c:Nat)(l:List Ti)(t:Ti)(B:Nat)(w:World)(hA:Tis w A n l)(h:w.cell? ⟨B,0,none⟩=some (.string t.nm))(hB:B<w.heap.size):
  Cs 255 #[.slice A n c,.func (.func 256) #[] #[B]] w (RB w (dupB l t)):=by
 have y:=zI (Jv4 A n c l t B w hA h hB);go_enter Tryz.func255,Tryz.ntmps255;go_wp2_with (go_at_call 319;refine y.out.mono ?_;rintro e w1 ⟨⟨i,rfl,x,_,_⟩,z⟩)
 go_ret;refine⟨Jal ?_,z⟩;rw[qcg,<- x]
theorem within_iff{n m:Int}:Jdy n m=true↔1<=n/\n<=m:=by unfold Jdy;rw[qb1,qbc,qbc]
theorem Jsb{t:Ti}(h:Jae t.nm.toList=false):Jdx t=true:=by unfold Jdx;rw[h];rfl
theorem Jmb{t:Ti}(h:t.kp<1\/1000000<t.kp\/t.sh<1\/8<t.sh\/t.ev<1\/1000000<t.ev):Jdx t=true:=by
 unfold Jdx;cases Jae t.nm.toList
 · rfl
 · rw[qcg];simp only[Bool.or_eq_true,qbc,iff_true];right;omega
theorem Jyh{t:Ti}(h:Jae t.nm.toList=true)(h1:1<=t.kp/\t.kp<=1000000)(h2:1<=t.sh/\t.sh<=8)(h3:1<=t.ev/\t.ev<=1000000):Jdx t=false:=by
 unfold Jdx;rw[h,qae (by omega),qae (by omega),qae (by omega),qae (by omega),qae (by omega),qae (by omega)];rfl
theorem Jt2(ts:List Ti)(j:Nat)(K:j<ts.length):Jcw ts j=((Jdx (ts[j]'K) || dupB (ts.take j) (ts[j]'K)) || (if j=0 then !((ts[j]'K).ev==1) else match ts[j - 1]? with | none=>false | some o=>Jpo o (ts[j]'K))):=by
 unfold Jcw;rw[qah K];try rfl
theorem J3o(ts:List Ti)(j:Nat)(K:j<ts.length)(h:Jcw ts j=false):1<=(ts[j]'K).ev/\(ts[j]'K).ev<=1000000:=by
 rw[Jt2 ts j K] at h;simp only[qdk] at h;have z:=h.1.1;unfold Jdx at z;simp only[qdk,decide_eq_false_iff_not] at z;omega
theorem J3p{t o:Ti}(hone:1<=t.ev/\t.ev<=1000000 ->Jdx t=false)(hnum:t.ev<1\/1000000<t.ev ->Jdx t=true)(ho:1<=o.ev):
  (Jdx t || Jpo o t)= !(decide (o.ev<t.ev) && (decide (t.ev<=1000000) && (Jec o.ev t.ev && decide (o.kp<=t.kp)))):=by
 by_cases z:t.ev<1\/1000000<t.ev
 · rw[hnum z]
   rcases z with z | z
   · rw[qae (show ¬ o.ev<t.ev by omega)];rfl
   · rw[qae (show ¬ t.ev<=1000000 by omega)];simp
 · rw[hone (by omega),qaj (show t.ev<=1000000 by omega)]
   unfold Jpo Jec;rw[qaj ho];by_cases y:t.ev<=o.ev
   · rw[qaj y,qae (show ¬ o.ev<t.ev by omega)];rfl
   · rw[qae y,qaj (show o.ev<t.ev by omega)]
     by_cases x:t.kp<o.kp
     · rw[qaj x,qae (show ¬ o.kp<=t.kp by omega)];simp
     · rw[qae x,qaj (show o.kp<=t.kp by omega)];simp
theorem J3q(ts:List Ti)(j:Nat)(K:j<ts.length)(A:Option Addr)(c:Nat)(w:World)(hprev:∀i,i<j ->Jcw ts i=false)(hA:Tis w A j (ts.take j))(hok:(ts[j]'K).Ok):
  Cs 170 #[.agg #[(ts[j]'K).nm,((ts[j]'K).ev:Int),((ts[j]'K).kp:Int),((ts[j]'K).sh:Int)],.slice A j c] w (RB w (!Jcw ts j)):=by
 have C:=hA.n_le;unfold maxLen at C;have f:=zI (Jt2 ts j K);have L:=zI hprev;have J:=zI hA;obtain⟨t,I⟩:=exE (ts[j]'K);rw[<- I] at hok f ⊢;have b0:=Bx.new w 167 #[t.nm,(t.ev:Int),(t.kp:Int),(t.sh:Int)];have d:Below w.heap.size w (w.alloc (.cells #[t.nm,(t.ev:Int),(t.kp:Int),(t.sh:Int)] 167)):=(qaa _ w).alloc (qab _) _;have b1:=b0.alloc (.cells #[t.nm] 9);have u:=d.alloc d.size (.cells #[t.nm] 9);have r:=zI (Jpp t.nm (w.alloc (.cells #[t.nm,(t.ev:Int),(t.kp:Int),(t.sh:Int)] 167)) hok.nm 1);rw[show(w.alloc (.cells #[t.nm,(t.ev:Int),(t.kp:Int),(t.sh:Int)] 167)).heap.size=w.heap.size+1 from by simp] at r;have x0:=b0.at_ 0 rfl;have x2:=b1.at_ 2 rfl;have x3:=b1.at_ 3 rfl;have S:=zI b1;clear b0 hA hprev I;by_cases v:Jae t.nm.toList=true/\Jdy t.kp 1000000=true/\Jdy t.sh 8=true
 rotate_left
 · have s:=zI (show Jcw ts j=true from by
    rw[f.out]
    have:Jdx t=true:=by
     by_cases H:Jae t.nm.toList=true
     · have: ¬ (1<=t.kp/\t.kp<=1000000)\/ ¬ (1<=t.sh/\t.sh<=8):=by
        by_cases G:Jdy t.kp 1000000=true
        · exact .inr (fun h3=>v ⟨H,G,within_iff.2 h3⟩)
        · exact .inl (fun h3=>G (within_iff.2 h3))
       exact Jmb (by omega)
     · exact Jsb (by simpa using H)
    rw[this];rfl)
   cases g:Jae t.nm.toList
   · rw[g] at r
     clear v;go_enter Tryz.func170,Tryz.ntmps170
     go_wp2_with (first
      | (go_at_call 168;refine r.out.mono ?_;rintro e w1 ⟨rfl,rfl⟩))
     go_ret;exact⟨by rw[s.out];rfl,u⟩
   rw[g] at r;cases R:Jdy t.kp 1000000
   · clear v
     go_enter Tryz.func170,Tryz.ntmps170
     go_wp2_with (first
      | (go_at_call 168;refine r.out.mono ?_;rintro e w1 ⟨rfl,rfl⟩)
      | (go_at_call 169;refine(Jbc _ _ _).mono ?_;rintro e w1 ⟨rfl,rfl⟩))
     go_ret;exact⟨by rw[s.out];rfl,u⟩
   have F:Jdy t.sh 8=false:=by
    cases hh:Jdy t.sh 8
    · rfl
    · exact absurd ⟨g,R,hh⟩ v
   clear v;go_enter Tryz.func170,Tryz.ntmps170
   go_wp2_with (first
    | (go_at_call 168;refine r.out.mono ?_;rintro e w1 ⟨rfl,rfl⟩)
    | (go_at_call 169;refine(Jbc _ _ _).mono ?_;rintro e w1 ⟨rfl,rfl⟩))
   go_ret;exact⟨by rw[s.out];rfl,u⟩
 obtain⟨g,R,F⟩:=v;rw[g] at r;have P:=within_iff.1 R;have N:=within_iff.1 F;have q:=zI (fun h=>Jyh (t:=t) g P N h);have n:=zI (fun h=>Jmb (t:=t) (.inr (.inr (.inr (.inr h)))));clear g;have x1:=S.out.at_ 1 rfl;by_cases E:j=0
 · subst E
   by_cases a:t.ev=1
   · have s:=zI (show Jcw ts 0=false from by rw[f.out,q.out (by omega),qa0 rfl,a];rfl)
     have Z:(t.ev==1)=true:=beq_iff_eq.2 a;clear a;go_enter Tryz.func170,Tryz.ntmps170
     go_wp2_with (first
      | (go_at_call 168;refine r.out.mono ?_;rintro e w1 ⟨rfl,rfl⟩)
      | (go_at_call 169;refine(Jbc _ _ _).mono ?_;rintro e w1 ⟨rfl,rfl⟩))
     go_ret;exact⟨by rw[s.out];rfl,u⟩
   · have Z:(t.ev==1)=false:=qat.2 a
     have s:=zI (show Jcw ts 0=true from by rw[f.out,qa0 rfl,Z];simp);clear a;go_enter Tryz.func170,Tryz.ntmps170
     go_wp2_with (first
      | (go_at_call 168;refine r.out.mono ?_;rintro e w1 ⟨rfl,rfl⟩)
      | (go_at_call 169;refine(Jbc _ _ _).mono ?_;rintro e w1 ⟨rfl,rfl⟩))
     go_ret;exact⟨by rw[s.out];rfl,u⟩
 have K3:j - 1<ts.length:=by omega
 have D:=J3o ts (j - 1) K3 (L.out (j - 1) (by omega));have Y:ts[j - 1]? =some (ts[j - 1]'K3):=qah K3;have K4:j - 1<(ts.take j).length:=by rw[qao];omega
 obtain⟨b,off,rfl,M,X⟩:=(J.out.below u).get K4;have l:(ts.take j)[j - 1]'K4=ts[j - 1]'K3:=by rw[List.getElem_take]
 rw[l] at X;have p:=zI (show Jcw ts j=((Jdx t || dupB (ts.take j) t) || Jpo (ts[j - 1]'K3) t) from by rw[f.out,qay E,Y]);generalize ts[j - 1]'K3=o at*;obtain⟨r0,r1,r2,r3⟩:=X;have B:((j:Int)==0)=false:=qat.2 (by omega);have hJ:IntKind.i64.wrap ((j:Int) - 1)=(j:Int) - 1:=qbd _ (by omega);have Ha:((j:Int) - 1).toNat=j - 1:=by omega
 have g0:(0:Int)<=(j:Int) - 1:=by omega
 have g1:(j:Int) - 1<(j:Int):=by omega
 have y:=u.alloc u.size (.cells #[o.nm,(o.ev:Int),(o.kp:Int),(o.sh:Int)] 167);have k:=zI (Jny (some ⟨b,off,none⟩) j c (ts.take j) t w.heap.size _ (J.out.below y) ((S.out.alloc (.cells #[o.nm,(o.ev:Int),(o.kp:Int),(o.sh:Int)] 167)).at_ 0 rfl) (by simp;omega));have V:=zI (S.out.alloc (.cells #[o.nm,(o.ev:Int),(o.kp:Int),(o.sh:Int)] 167));have U:=zI (Bx.new ((w.alloc (.cells #[t.nm,(t.ev:Int),(t.kp:Int),(t.sh:Int)] 167)).alloc (.cells #[t.nm] 9)) 167 #[o.nm,(o.ev:Int),(o.kp:Int),(o.sh:Int)]);have m:=zI (fun W=>Jkm o.ev t.ev W);clear u Y l M L f K3 K4;go_enter Tryz.func170,Tryz.ntmps170;cases hd:dupB (ts.take j) t
 rotate_left
 · have s:=zI (show Jcw ts j=true from by rw[p.out,hd];simp)
   rw[hd] at k;clear m q n p
   go_wp2_with (first
    | (go_at_call 168;refine r.out.mono ?_;rintro e w1 ⟨rfl,rfl⟩)
    | (go_at_call 169;refine(Jbc _ _ _).mono ?_;rintro e w1 ⟨rfl,rfl⟩)
    | (go_at_call 255;refine k.out.mono ?_;rintro e w1 ⟨rfl,z⟩))
   go_ret;exact⟨by rw[s.out];rfl,y.trans (z.mono y.size)⟩
 rw[hd] at k p;rw[Bool.or_false] at p;have x:=zI (p.out.trans (J3p q.out n.out D.1));clear p q n hd D;by_cases c1:o.ev<t.ev
 rotate_left
 · have s:=zI (show Jcw ts j=true from by rw[x.out,qae c1];rfl)
   clear x
   go_wp2_with (first
    | (go_at_call 168;refine r.out.mono ?_;rintro e w1 ⟨rfl,rfl⟩)
    | (go_at_call 169;refine(Jbc _ _ _).mono ?_;rintro e w1 ⟨rfl,rfl⟩)
    | (go_at_call 255;refine k.out.mono ?_;rintro e w1 ⟨rfl,z⟩
       have T:=V.out.below z;have O:=U.out.below z;have u1:=T.at_ 1 rfl;have u2:=T.at_ 2 rfl;have v1:=O.at_ 1 rfl;have v2:=O.at_ 2 rfl;simp only[qdo] at v1 v2)
    | (go_at_call 257;refine(m.out _).mono ?_;rintro e w1 ⟨rfl,rfl⟩))
   go_ret;exact⟨by rw[s.out];rfl,y.trans (z.mono y.size)⟩
 by_cases c2:t.ev<=1000000
 rotate_left
 · have s:=zI (show Jcw ts j=true from by rw[x.out,qae c2];simp)
   clear x
   go_wp2_with (first
    | (go_at_call 168;refine r.out.mono ?_;rintro e w1 ⟨rfl,rfl⟩)
    | (go_at_call 169;refine(Jbc _ _ _).mono ?_;rintro e w1 ⟨rfl,rfl⟩)
    | (go_at_call 255;refine k.out.mono ?_;rintro e w1 ⟨rfl,z⟩
       have T:=V.out.below z;have O:=U.out.below z;have u1:=T.at_ 1 rfl;have u2:=T.at_ 2 rfl;have v1:=O.at_ 1 rfl;have v2:=O.at_ 2 rfl;simp only[qdo] at v1 v2)
    | (go_at_call 257;refine(m.out _).mono ?_;rintro e w1 ⟨rfl,rfl⟩))
   go_ret;exact⟨by rw[s.out];rfl,y.trans (z.mono y.size)⟩
 cases c3:Jec o.ev t.ev
 · have s:=zI (show Jcw ts j=true from by rw[x.out,c3];simp)
   rw[c3] at m;clear x c3
   go_wp2_with (first
    | (go_at_call 168;refine r.out.mono ?_;rintro e w1 ⟨rfl,rfl⟩)
    | (go_at_call 169;refine(Jbc _ _ _).mono ?_;rintro e w1 ⟨rfl,rfl⟩)
    | (go_at_call 255;refine k.out.mono ?_;rintro e w1 ⟨rfl,z⟩
       have T:=V.out.below z;have O:=U.out.below z;have u1:=T.at_ 1 rfl;have u2:=T.at_ 2 rfl;have v1:=O.at_ 1 rfl;have v2:=O.at_ 2 rfl;simp only[qdo] at v1 v2)
    | (go_at_call 257;refine(m.out _).mono ?_;rintro e w1 ⟨rfl,rfl⟩))
   go_ret;exact⟨by rw[s.out];rfl,y.trans (z.mono y.size)⟩
 by_cases c4:o.kp<=t.kp
 · have s:=zI (show Jcw ts j=false from by rw[x.out,c3,qaj c1,qaj c2,qaj c4];rfl)
   rw[c3] at m;clear x c3
   go_wp2_with (first
    | (go_at_call 168;refine r.out.mono ?_;rintro e w1 ⟨rfl,rfl⟩)
    | (go_at_call 169;refine(Jbc _ _ _).mono ?_;rintro e w1 ⟨rfl,rfl⟩)
    | (go_at_call 255;refine k.out.mono ?_;rintro e w1 ⟨rfl,z⟩
       have T:=V.out.below z;have O:=U.out.below z;have u1:=T.at_ 1 rfl;have u2:=T.at_ 2 rfl;have v1:=O.at_ 1 rfl;have v2:=O.at_ 2 rfl;simp only[qdo] at v1 v2)
    | (go_at_call 257;refine(m.out _).mono ?_;rintro e w1 ⟨rfl,rfl⟩))
   go_ret;exact⟨by rw[s.out];rfl,y.trans (z.mono y.size)⟩
 · have s:=zI (show Jcw ts j=true from by rw[x.out,qae c4];simp)
   rw[c3] at m;clear x c3
   go_wp2_with (first
    | (go_at_call 168;refine r.out.mono ?_;rintro e w1 ⟨rfl,rfl⟩)
    | (go_at_call 169;refine(Jbc _ _ _).mono ?_;rintro e w1 ⟨rfl,rfl⟩)
    | (go_at_call 255;refine k.out.mono ?_;rintro e w1 ⟨rfl,z⟩
       have T:=V.out.below z;have O:=U.out.below z;have u1:=T.at_ 1 rfl;have u2:=T.at_ 2 rfl;have v1:=O.at_ 1 rfl;have v2:=O.at_ 2 rfl;simp only[qdo] at v1 v2)
    | (go_at_call 257;refine(m.out _).mono ?_;rintro e w1 ⟨rfl,rfl⟩))
   go_ret;exact⟨by rw[s.out];first | rfl | exact Jal (qae (by omega)),y.trans (z.mono y.size)⟩
structure CkS (w0 w':World) (b b1:Nat) (nm:ByteArray) (A:Option Addr) (n c:Nat) (x:Ti):Prop where
 bx:Bx w' b 101 #[nm,.slice A n c]
 xb:Bx w' b1 167 #[x.nm,(x.ev:Int),(x.kp:Int),(x.sh:Int)]
 bel:Below w0.heap.size w0 w'
section
variable {w0 w w':World} {b b1:Nat} {nm:ByteArray} {A:Option Addr} {n c:Nat} {x:Ti}
theorem CkS.below(h:CkS w0 w b b1 nm A n c x)(hb:Below w.heap.size w w'):CkS w0 w' b b1 nm A n c x:=⟨h.bx.below hb,h.xb.below hb,h.bel.trans (hb.mono h.bel.size)⟩
theorem CkS.drew(h:CkS w0 w b b1 nm A n c x):CkS w0 w.drew b b1 nm A n c x:=h.below ((qaa _ _).drew)
theorem CkS.full(h:CkS w0 w b b1 nm A n c x):CkS w0 w b b1 nm A n c x/\w.cell? ⟨b,1,none⟩=some (.slice A n c)/\w.cell? ⟨b1,0,none⟩=some (.string x.nm)/\w.cell? ⟨b1,1,none⟩=some (.int .i64 x.ev)/\w.cell? ⟨b1,2,none⟩=some (.int .i64 x.kp)/\w.cell? ⟨b1,3,none⟩=some (.int .i64 x.sh):=
 ⟨h,h.bx.at_ 1 rfl,h.xb.at_ 0 rfl,h.xb.at_ 1 rfl,h.xb.at_ 2 rfl,h.xb.at_ 3 rfl⟩
end
theorem Jly{w:World}{A:Option Addr}{n j:Nat}{l:List Ti}(h:Tis w A n l)(hj:j<=n):Tis w A j (l.take j):=by
 have v:=h.len;have s:=h.n_le;refine⟨⟨fun hne=> ?_⟩,by rw[qao];omega,by omega,fun t ht=>h.ok t (qbi ht)⟩;have e:l.flatMap Ti.cells=(l.take j).flatMap Ti.cells++(l.drop j).flatMap Ti.cells:=by rw[<- qav,qa8]
 obtain⟨b,off,e2,z,y⟩:=h.sl.at_ (fun e3=>hne (by rw[e] at e3;exact(List.append_eq_nil_iff.1 e3).1));refine⟨b,off,e2,z,fun i u hu=>y i u ?_⟩;have x:=(qbs.1 hu).1;rw[e,qcf x];exact hu
theorem check_any(nm:ByteArray)(A:Option Addr)(n c:Nat)(ts:List Ti)(w:World)(hnm:nm.size<=maxLen)(h:Tis w A n ts)(hc:n<=c):
  Cs 95 #[polV nm A n c] w (RB w (.tuple #[((checkR nm.toList ts).1:Int),((checkR nm.toList ts).2:Int)])):=by
 have T:=h.n_le;unfold maxLen at T;have t:=h.len;have b0:=Bx.new w 101 #[nm,.slice A n c];have s:Below w.heap.size w (w.alloc (.cells #[nm,.slice A n c] 101)):=(qaa _ w).alloc (qab _) _;have b1:=b0.alloc (.cells #[nm] 9);have u:=s.alloc s.size (.cells #[nm] 9);have r:=zI (Jpp nm (w.alloc (.cells #[nm,.slice A n c] 101)) hnm 1);rw[show(w.alloc (.cells #[nm,.slice A n c] 101)).heap.size=w.heap.size+1 from by simp] at r;have x1:=b1.at_ 1 rfl;have g:=zI h;have o:=zI b1;clear h b0 s;cases hv:Jae nm.toList
 · have p:=zI (show checkR nm.toList ts=(23,0) from by unfold checkR;rw[hv];rfl)
   rw[hv] at r;go_enter Tryz.func95,Tryz.ntmps95
   go_wp2_with (first
    | (go_at_call 168;refine r.out.mono ?_;rintro e w1 ⟨rfl,rfl⟩))
   go_ret2;exact⟨by rw[p.out];rfl,u⟩
 rw[hv] at r;cases hin:Jdy (n:Int) 5
 · have p:=zI (show checkR nm.toList ts=(23,0) from by
    have S: ¬ (1<=(n:Int)/\(n:Int)<=5):=fun e=>by rw[within_iff.2 e] at hin;cases hin
    unfold checkR;rw[hv,t];have:n<1\/5<n:=(by omega);rw[qa0 (by simpa using this)])
   go_enter Tryz.func95,Tryz.ntmps95
   go_wp2_with (first
    | (go_at_call 168;refine r.out.mono ?_;rintro e w1 ⟨rfl,rfl⟩)
    | (go_at_call 169;refine(Jbc _ _ _).mono ?_;rintro e w1 ⟨rfl,rfl⟩))
   go_ret2;exact⟨by rw[p.out];rfl,u⟩
 have Y:=within_iff.1 hin
 have p:=zI (show checkR nm.toList ts=match (List.range n).find? (Jcw ts) with | some i=>(23,(i:Int)+1) | none=>(0,0) from by
  unfold checkR;rw[hv,t,qae (show ¬ n<1 by omega),qae (show ¬ 5<n by omega)];rfl)
 clear hv;go_enter Tryz.func95,Tryz.ntmps95
 go_wp2_with (first
  | (go_at_call 168;refine r.out.mono ?_;rintro e w1 ⟨rfl,rfl⟩)
  | (go_at_call 169;refine(Jbc _ _ _).mono ?_;rintro e w1 ⟨rfl,rfl⟩))
 go_loopw [4,5,21] (fun _ _ i wr=>∃j:Nat,j<=n/\i= .int .i64 j/\Hid (∀i,i<j ->Jcw ts i=false)/\Bx wr w.heap.size 101 #[nm,.slice A n c]/\Below w.heap.size w wr) (fun _ _ i _=>n - (intOf i).toNat)
 case atStart=>exact⟨0,qaq _,rfl,zI (fun i hi=>absurd hi (by omega)),o.out,u⟩
 case round=>
  clear o u x1 r hin;obtain⟨j,R,rfl,k,bx,z⟩:=hrel;by_cases m:j<n
  · have K:j<ts.length:=by rw[t];exact m
    have f:=g.out.ok _ (qan K);have q:=(qaa wr.heap.size wr).alloc (qab _) (.cells #[(ts[j]'K).nm,((ts[j]'K).ev:Int),((ts[j]'K).kp:Int),((ts[j]'K).sh:Int)] 167);have V:=zI (fun W (hW:Below w.heap.size w W)=>J3q ts j K A c W k.out (Jly (g.out.below hW) R) f);obtain⟨b,off,rfl,P,X⟩:=(g.out.below z).get K;obtain⟨r0,r1,r2,r3⟩:=X;have q1:=bx.at_ 1 rfl;have XB:=Bx.new wr 167 #[(ts[j]'K).nm,((ts[j]'K).ev:Int),((ts[j]'K).kp:Int),((ts[j]'K).sh:Int)];have S0:CkS w _ w.heap.size wr.heap.size nm _ n c (ts[j]'K):=⟨bx.below q,XB,z.trans (q.mono z.size)⟩;generalize (ts[j]'K)=x at*;have g0:(0:Int)<=(j:Int):=(by omega);have g1:(j:Int)<(n:Int):=(by omega);have g2:(j:Int)<=(c:Int):=(by omega);have O:j<=c:=(by omega);have S0D:=S0.drew;clear XB bx q z;go_upto_region 6 with fail
    generalize wr.alloc (.cells #[x.nm,(x.ev:Int),(x.kp:Int),(x.sh:Int)] 167)=w2 at*;generalize wr.heap.size=b1 at*;have F0:=S0D.full
    go_region_held3 (fun w'=>CkS w w' w.heap.size b1 nm (some ⟨b,off,none⟩) n c x/\w'.cell? ⟨w.heap.size,1,none⟩=some (.slice (some ⟨b,off,none⟩) n c)/\w'.cell? ⟨b1,0,none⟩=some (.string x.nm)/\w'.cell? ⟨b1,1,none⟩=some (.int .i64 x.ev)/\w'.cell? ⟨b1,2,none⟩=some (.int .i64 x.kp)/\w'.cell? ⟨b1,3,none⟩=some (.int .i64 x.sh))
     (first
       | assumption
       | exact S0D.full
       | (go_split_ands;exact CkS.full (by assumption))
       | (go_split_ands;exact CkS.full (CkS.below (by assumption) d)))
     (first
       | (go_at_call 170;go_split_ands;refine(V.out _ (CkS.bel (by assumption))).mono ?_;rintro e wo ⟨rfl,d⟩))
    go_split_ands;have S1:CkS w wo w.heap.size b1 nm (some ⟨b,off,none⟩) n c x:=(by assumption);have l:=S1.bel;have bxf:=S1.bx
    have y:=zI (show Jcw ts j=false ->∀i,i<j+1 ->Jcw ts i=false from fun e i hi=>by
     by_cases e2:i=j
     · rw[e2];exact e
     · exact k.out i (by omega))
    have v:=zI (show Jcw ts j=true ->checkR nm.toList ts=(23,(j:Int)+1) from fun e=>by rw[p.out,Jv3 m e k.out]);have U:IntKind.i64.wrap ((j:Int)+1)=(j:Int)+1:=qbd _ (by omega);clear S0 S0D S1 V;cases hbad:Jcw ts j
    · have N:=zI (y.out hbad)
      clear y v hbad;go_wp2;go_roundw
      case rel=>exact⟨j+1,by omega,by go_num,N,bxf,l⟩
      case measure=>simp[intOf];omega
    · have a:=zI (v.out hbad)
      clear y v hbad;go_wp2;go_ret2;exact⟨by rw[a.out];rfl,l⟩
  · have Z:j=n:=by omega
    subst Z;have a:=zI (show checkR nm.toList ts=(0,0) from by rw[p.out,J68 k.out]);have q1:=bx.at_ 1 rfl;go_wp2;go_ret2;exact⟨by rw[a.out];rfl,z⟩
