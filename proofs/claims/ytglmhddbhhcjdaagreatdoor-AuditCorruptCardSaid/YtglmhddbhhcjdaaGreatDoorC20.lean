/- Laws that the walk of the last text wants. -/
import Derived.Test.YtglmhddbhhcjdaaGreatDoorC9
import Derived.Test.YtglmhddbhhcjdaaGreatDoorC19
import Derived.Test.YtglmhddbhhcjdaaGreatDoorC11
set_option maxRecDepth 100000
set_option linter.unusedSimpArgs false
set_option maxHeartbeats 4000000
namespace Go.Proofs.YtglmhddbhhcjdaaGreatDoor
open Go.ChangeShapes Go.WideShapes Go.ChangeAt Go.RowKit Go.Deep
theorem Jcd{z:Int}(h: -9223372036854775808<=z/\z<=9223372036854775807):(Lit.int .i64 z).wf=true:=by
 have:IntKind.i64.min= -9223372036854775808/\IntKind.i64.max=9223372036854775807:=by decide
 simp[Lit.wf,this.1,this.2,h.1,h.2]
structure Smp where
 nm:ByteArray
 tm:Int
 vl:Int
def Smp.cells (s:Smp):List Value:=[s.nm,(s.tm:Int),(s.vl:Int)]
structure Smp.Ok (s:Smp):Prop where
 nm:s.nm.size<=maxLen
 tm: -9223372036854775808<=s.tm/\s.tm<=9223372036854775807
 vl: -9223372036854775808<=s.vl/\s.vl<=9223372036854775807
theorem Jzl(s:Smp):s.cells.length=3:=rfl
structure Smps (w:World) (A:Option Addr) (n:Nat) (l:List Smp):Prop where
 sl:Sl w A (l.flatMap Smp.cells)
 len:l.length=n
 n_le:n<=maxLen
 ok:∀s∈l,s.Ok
structure J4p (w:World) (b off:Nat) (s:Smp):Prop where
 c0:w.cell? ⟨b,off,none⟩=some (.string s.nm)
 c1:w.cell? ⟨b,off+1,none⟩=some (.int .i64 s.tm)
 c2:w.cell? ⟨b,off+2,none⟩=some (.int .i64 s.vl)
theorem Smps.get{w:World}{A:Option Addr}{n:Nat}{l:List Smp}(h:Smps w A n l){j:Nat}(hj:j<l.length):∃b off,A=some ⟨b,off,none⟩/\b<w.heap.size/\J4p w b (off+j*3) l[j]:=by
 have z:l.flatMap Smp.cells≠[]:=by
  cases l with
  | nil=>simp at hj
  | cons a r=>simp[Smp.cells]
 obtain⟨b,off,e,x,y⟩:=h.sl.at_ z;have g:=fun q hq=>Jdh Jzl l j hj q hq;have c0:=y (j*3+0) _ (g 0 (by omega));have c1:=y (j*3+1) _ (g 1 (by omega));have c2:=y (j*3+2) _ (g 2 (by omega));rw[<- qcd] at c1 c2;exact⟨b,off,e,x,c0,c1,c2⟩
theorem Smps.below{w w':World}{A:Option Addr}{n:Nat}{l:List Smp}(h:Smps w A n l)(hb:Below w.heap.size w w'):Smps w' A n l:=⟨h.sl.below hb,h.len,h.n_le,h.ok⟩
theorem Smps.chg{G:Nat ->Prop}{w w':World}{A:Option Addr}{n:Nat}{l:List Smp}(h:Smps w A n l)(hc:Chg G w w')(hn:AIn (fun b=> ¬ G b) A):Smps w' A n l:=⟨h.sl.chg hc hn,h.len,h.n_le,h.ok⟩
end Go.Proofs.YtglmhddbhhcjdaaGreatDoor
namespace Go.Proofs.YtglmhddbhhcjdaaGreatDoor
open Go.RowKit
structure Rch.Gets (r:Rch) (s:Smp):Prop where
 ok:s.Ok
 nm:Jae s.nm.toList=true
 tm:0<=s.tm/\s.tm<=r.now
 from_:r.from_ 0<=s.tm
structure TkS (w w':World) (r:Rch) (A:Option Addr) (n c:Nat) (B:Option Addr) (m d:Nat) (s:Smp):Prop where
 rb:Bx w' w.heap.size 161 #[(r.now:Int),r.nm,.slice A n c,.slice B m d]
 sb:Bx w' (w.heap.size+1) 85 #[s.nm,(s.tm:Int),(s.vl:Int)]
 bel:Below w.heap.size w w'
theorem TkS.next{w w1 w':World}{r:Rch}{A B:Option Addr}{n c m d:Nat}{s:Smp}(h:TkS w w1 r A n c B m d s)(hb:Below w1.heap.size w1 w'):TkS w w' r A n c B m d s:=⟨h.rb.below hb,h.sb.below hb,h.bel.trans (hb.mono h.bel.size)⟩
theorem TkS.cells{w w':World}{r:Rch}{A B:Option Addr}{n c m d:Nat}{s:Smp}(h:TkS w w' r A n c B m d s):
  w'.cell? ⟨w.heap.size,0,none⟩=some (.int .i64 r.now)/\w'.cell? ⟨w.heap.size,1,none⟩=some (.string r.nm)/\w'.cell? ⟨w.heap.size,2,none⟩=some (.slice A n c)/\w'.cell? ⟨w.heap.size,3,none⟩=some (.slice B m d)/\w'.cell? ⟨w.heap.size+1,0,none⟩=some (.string s.nm)/\w'.cell? ⟨w.heap.size+1,1,none⟩=some (.int .i64 s.tm):=
 ⟨h.rb.at_ 0 rfl,h.rb.at_ 1 rfl,h.rb.at_ 2 rfl,h.rb.at_ 3 rfl,h.sb.at_ 0 rfl,h.sb.at_ 1 rfl⟩
theorem J4q(A:Option Addr)(n c:Nat)(B:Option Addr)(m d:Nat)(r:Rch)(s:Smp)(w:World)(h:Jem w A n B m r)(hn:n<=1000000)(h1:1<=n)(hs:r.Gets s):
  Cs 122 #[rchV r.now r.nm A n c B m d,.agg #[s.nm,(s.tm:Int),(s.vl:Int)]] w (RB w (0:Int)):=by
 have v:=zI (fun (W:World) (g:Nat) (hg:W.cell? ⟨g,0,none⟩=some (.string s.nm))=>Jbj (some ⟨g,0,none⟩) 1 1 [s.nm] W (by decide) rfl (by simpa using hs.ok.nm) (fun _=>⟨g,0,rfl,one_cell hg⟩));rw[show([s.nm].all fun s=>Jae s.toList)=true from by simp[hs.nm]] at v;obtain⟨w1,z⟩:=exE ((w.alloc (.cells #[(r.now:Int),r.nm,.slice A n c,.slice B m d] 161)).alloc (.cells #[s.nm,(s.tm:Int),(s.vl:Int)] 85));have y:=(qaa w.heap.size w).alloc (qab _) (.cells #[(r.now:Int),r.nm,.slice A n c,.slice B m d] 161)
 have u:=zI (show TkS w w1 r A n c B m d s from by
  rw[z];refine⟨(Bx.new w _ _).alloc _,?_,y.alloc y.size _⟩;have:=Bx.new (w.alloc (.cells #[(r.now:Int),r.nm,.slice A n c,.slice B m d] 161)) 85 #[s.nm,(s.tm:Int),(s.vl:Int)]
  rwa [show(w.alloc (.cells #[(r.now:Int),r.nm,.slice A n c,.slice B m d] 161)).heap.size=w.heap.size+1 from by simp] at this)
 have k:=zI z;have t:=zI (fun W=>Jiu r.now r.nm A n c B m d 0 W);rw[show isB n 0=true from qaj (by omega)] at t;have j:=zI (fun W (hW:Below w.heap.size w W)=>Jg8 A n c B m d r 0 W (h.below hW) hn h1);have d1:decide (s.tm<0)=false:=qae (by have:=hs.tm;omega);have d2:decide (r.now<s.tm)=false:=qae (by have:=hs.tm;omega);have d3:decide (s.tm<r.from_ 0)=false:=qae (by have:=hs.from_;omega);clear z y h hs;obtain⟨a0,a1,a2,a3,b0,b1⟩:=u.out.cells;go_enter Tryz.func122,Tryz.ntmps122;go_upto_region 1 with fail
 rw[<- k.out];go_wp2_with fail
 refine(v.out _ _ (by simp[go_sem])).mono ?_;rintro e w2 ⟨rfl,f⟩;have x:=u.out.next (show Below w1.heap.size w1 w2 from by rw[<- f];exact(qaa _ _).alloc (qab _) _);have b:=zI x;clear f a0 a1 a2 a3 b0 b1;obtain⟨a0,a1,a2,a3,b0,b1⟩:=x.cells;go_wp2_with fail
 have q:=zI (x.next (qaa _ _).drew)
 go_region_held3 (fun w'=>(w'.cell? ⟨w.heap.size,0,none⟩=some (.int .i64 r.now)/\w'.cell? ⟨w.heap.size,1,none⟩=some (.string r.nm)/\w'.cell? ⟨w.heap.size,2,none⟩=some (.slice A n c)/\w'.cell? ⟨w.heap.size,3,none⟩=some (.slice B m d)/\w'.cell? ⟨w.heap.size+1,0,none⟩=some (.string s.nm)/\w'.cell? ⟨w.heap.size+1,1,none⟩=some (.int .i64 s.tm))/\TkS w w' r A n c B m d s)
  (first
    | exact⟨q.out.cells,q.out⟩
    | (go_split_ands;exact⟨(TkS.next (by assumption) p).cells,TkS.next (by assumption) p⟩)
    | (go_split_ands;exact⟨(TkS.next (by assumption) o).cells,TkS.next (by assumption) o⟩))
  (first
    | (go_at_call 183;refine(t.out _).mono ?_;rintro e wq ⟨rfl,p⟩)
    | (go_at_call 108;go_split_ands;refine(j.out _ (TkS.bel (by assumption))).mono ?_;rintro e wp ⟨rfl,o⟩))
 have l:TkS w wp r A n c B m d s:=by go_split_ands;assumption
 have i:=zI l.bel;clear l;go_wp2_with fail
 go_ret;exact⟨rfl,i.out⟩
end Go.Proofs.YtglmhddbhhcjdaaGreatDoor
namespace Go.Proofs.YtglmhddbhhcjdaaGreatDoor.Py
open Go.ChangeShapes Go.WideShapes Go.ChangeAt Go.RowKit Go.Deep
def totW (l:List Wd):Nat:=(l.map fun x=>x.text.length).sum
theorem Jld(c:UInt8):∀l,totW (Jbe c l)<=totW l+1
 | []=>by simp[Jbe]
 | [x]=>by simp[Jbe,totW]
 | x::y::r=>by
   have h:=Jld c (y::r);have e1:totW (Jbe c (x::y::r))=x.text.length+totW (Jbe c (y::r)):=by simp[Jbe,totW]
   have e2:totW (x::y::r)=x.text.length+totW (y::r):=by simp[totW]
   omega
theorem J73(n:Int)(l:List UInt8):totW (lst n l).out<=l.length:=by
 obtain⟨m,rfl⟩:∃m:List UInt8,l=m.reverse:=⟨l.reverse,by simp⟩
 induction m with
 | nil=>simp[lst,totW]
 | cons c r ih=>
   rw[qby,Jdi];unfold Jea;rw[qad,List.length_singleton];split
   · exact Nat.le_succ_of_le ih
   · split
     · have:=Jld c (lst n r.reverse).out
       show totW (Jbe c (lst n r.reverse).out)<=_;omega
     · have e:totW ((lst n r.reverse).out++[⟨[c],n,((lst n r.reverse).i:Int)+1⟩])=totW (lst n r.reverse).out+1:=by simp[totW]
       show totW (_++_)<=_;rw[e];omega
theorem Jzm{x:Wd}:∀ {l:List Wd},x∈l ->x.text.length<=totW l
 | y::r,h=>by
   have e:totW (y::r)=y.text.length+totW r:=by simp[totW]
   rcases qbb.1 h with rfl | h
   · omega
   · have:=Jzm h;omega
theorem Jqm{m:Nat}:∀ (ls:List (List UInt8)) (n:Int),(∀l∈ls,l.length<=m) ->∀x∈cutW n ls,x.text.length<=m
 | [],_,_,x,h=>by simp[cutW] at h
 | y ::r,n,hl,x,h=>by
   rcases qbe.1 (show x∈Jah n y++cutW (n+1) r from h) with h | h
   · have z:=Jzm ((List.takeWhile_sublist _).subset h)
     have w:=J73 n y;have v:=hl y (by simp);omega
   · exact Jqm r (n+1) (fun l hh=>hl l (by simp[hh])) x h
theorem Jwl(s:ByteArray)(h:s.size<=4000):∀x∈cutW 1 (Jb7 s),x.text.length<=4000:=
 Jqm _ _ fun l hl=>by
  obtain⟨b,z,rfl⟩:=qbn.1 hl;have:=Jl6 s b z;rw[Jac];omega
def cellA (w:World) (g:Nat):Nat:=match w.cell? ⟨g,0,none⟩ with
 | some (.int _ a)=>a.toNat
 | _=>0
def Jzn:Value ->Nat
 | .bool true=>1
 | _=>0
def Jd4 (r:Rd) (B:Nat) (e:Ending) (w':World):Prop:=match r with
 | .bad k at_=>e= .returned (.tuple #[polV ByteArray.empty none 0 0,(k:Int),(at_:Int)])
 | .good nm ts=>∃A c,e= .returned (.tuple #[polV ⟨nm.toArray⟩ A ts.length c,(0:Int),(0:Int)])/\w'.ownsRow B 167 4 (.slice A ts.length c) ts.length (ts.flatMap Ti.cells)/\(∀t∈ts,t.Ok)/\nm.length<=4000/\ts.length<=5
theorem Jss(ws:List Wd)(a:Nat)(h:a<ws.length):Jf5 ws[a]? =Jcr (ws.drop a):=by
 rw[qah h,qbm h];rfl
structure J9u (w1 wr:World) (g gl:Nat) (ws:List Wd) (first:Bool) (a:Nat) (nm:ByteArray) (v:Value) (ts:List Ti):Prop where
 ps:PS w1 wr g gl a ws nm v ts
 one:first=true ->a=0/\ts=[]
 rest:first=false ->∃f,ws.length - a<=f/\Jg1 nm.toList f (ws.drop a) ts=Jdg ws
theorem Jjy(w:World)(g a:Nat)(ws:List Wd)(h:Jbb w g a ws)(ha:a<ws.length):
  Cs 165 #[g] w fun e w'=>(∃t c,e= .returned (.tuple #[.agg #[(t:ByteArray),(Jcr (ws.drop a):Int),(c:Int)],true]))/\Below w.heap.size w w':=
 (Je5 w g a ws h).mono fun e w' ⟨he,hb⟩=>by
   refine⟨⟨Jqj ws[a]?,wcol ws[a]?,?_⟩,hb⟩;rw[he,Jfc,Jss ws a ha,qaj ha]
theorem J74(w:World)(g a:Nat)(ws:List Wd)(h:Jbb w g a ws)(ha: ¬ a<ws.length):
  Cs 165 #[g] w fun e w'=>(∃t l c,e= .returned (.tuple #[.agg #[(t:ByteArray),(l:Int),(c:Int)],false]))/\Below w.heap.size w w':=
 (Je5 w g a ws h).mono fun e w' ⟨he,hb⟩=>by
   refine⟨⟨Jqj ws[a]?,Jf5 ws[a]?,wcol ws[a]?,?_⟩,hb⟩;rw[he,Jfc,qae ha]
theorem PS.cellA{w1 w:World}{g gl a:Nat}{ws:List Wd}{nm:ByteArray}{v:Value}{ts:List Ti}(h:PS w1 w g gl a ws nm v ts):cellA w g=a:=by
 unfold Go.Proofs.YtglmhddbhhcjdaaGreatDoor.Py.cellA;rw[h.mem.at_.c0];simp
theorem PS.le{w1 w:World}{g gl a:Nat}{ws:List Wd}{nm:ByteArray}{v:Value}{ts:List Ti}(h:PS w1 w g gl a ws nm v ts):a<=ws.length:=h.mem.at_.le
theorem PS.from_{w0 w1 w:World}{g gl a:Nat}{ws:List Wd}{nm:ByteArray}{v:Value}{ts:List Ti}(h:PS w1 w g gl a ws nm v ts)(hb:Below w0.heap.size w0 w1)(hg:w0.heap.size<=g):Below w0.heap.size w0 w:=
 hb.grown h.mem.gr hb.size (fun k z=>by injection z with z;omega)
theorem PS.box{w1 w:World}{g gl a r:Nat}{ws:List Wd}{nm:ByteArray}{v:Value}{ts:List Ti}{T:TypeId}{cs:Array Value}(h:PS w1 w g gl a ws nm v ts)(hr:Bx w1 r T cs)(hg:r<g):Bx w r T cs:=
 hr.grown h.mem.gr (fun e=>by injection e with e;omega)
theorem Jzo(s :ByteArray)(w:World)(hs:s.size<=maxLen)(hm:∃m:Int,w.cell? ⟨0,0,none⟩=some (.int .i64 m)):
  Cs 94 #[s] w fun e w'=>Jd4 (Jdw s) w.heap.size e w'/\Below w.heap.size w w':=by
 have S:0<w.heap.size:=by obtain⟨m,h⟩:=hm;have:=block_lt_of_cell h;simpa using this
 have y:Below w.heap.size w (w.alloc (.cells #[ByteArray.empty,()] 101)):=(qaa _ w).alloc (qab _) _;have b0:=Bx.new w 101 #[ByteArray.empty,()];have t:=J6z s (w.alloc (.cells #[ByteArray.empty,()] 101)) hs (hm.imp fun m h=>(y.cell (p:=⟨0,0,none⟩) S).trans h);by_cases U:4000<s.size
 · have T:=zI (t.mono (R':=fun e w'=>e= .returned (.tuple #[.pointer none,(2:Int),(0:Int)])/\Below (w.alloc (.cells #[ByteArray.empty,()] 101)).heap.size (w.alloc (.cells #[ByteArray.empty,()] 101)) w') (fun e w' ⟨hb,hc⟩=>by
    rcases hc with⟨_,rfl⟩ | ⟨h,_⟩ | ⟨h,_⟩
    · exact⟨rfl,hb⟩
    · omega
    · omega))
   have n:=zI (show Jdw s= .bad 2 0 from by unfold Jdw;rw[qa0 U]);clear t;go_enter Tryz.func94,Tryz.ntmps94
   go_wp2_with (first
    | (go_at_call 163;refine T.out.mono ?_;rintro e w1 ⟨rfl,x⟩
       have b1:=b0.below x;have q0:=b1.at_ 0 rfl;have q1:=b1.at_ 1 rfl;have f0:=b1.free 0;have f1:=b1.free 1))
   have X:=((b1.set 0 (.string ⟨#[]⟩)).set 1 ());have x0:((w1.setCell ⟨w.heap.size,0,none⟩ (.string ⟨#[]⟩)).setCell ⟨w.heap.size,1,none⟩ ()).cell? ⟨w.heap.size,0,none⟩=some (.string ⟨#[]⟩):=X.at_ 0 rfl;have x1:((w1.setCell ⟨w.heap.size,0,none⟩ (.string ⟨#[]⟩)).setCell ⟨w.heap.size,1,none⟩ ()).cell? ⟨w.heap.size,1,none⟩=some (.slice none 0 0):=X.at_ 1 rfl;have z:Below w.heap.size w ((w1.setCell ⟨w.heap.size,0,none⟩ (.string ⟨#[]⟩)).setCell ⟨w.heap.size,1,none⟩ ()):=((y.trans (x.mono y.size)).setCell (qab _) _).setCell (qab _) _;clear X;generalize HW:((w1.setCell ⟨w.heap.size,0,none⟩ (.string ⟨#[]⟩)).setCell ⟨w.heap.size,1,none⟩ ())=W at x0 x1 z ⊢;refine qa6 (v:= .tuple #[polV ⟨#[]⟩ none 0 0,(2:Int),(0:Int)]) (by simp[results,Tryz.results94,go_sem,x0,x1]) rfl ⟨?_,z⟩;rw[n.out];rfl
 by_cases R:cutE 1 (Jb7 s)≠0
 · have T:=zI (t.mono (R':=fun e w'=>e= .returned (.tuple #[.pointer none,(22:Int),(cutE 1 (Jb7 s):Int)])/\Below (w.alloc (.cells #[ByteArray.empty,()] 101)).heap.size (w.alloc (.cells #[ByteArray.empty,()] 101)) w') (fun e w' ⟨hb,hc⟩=>by
    rcases hc with⟨h,_⟩ | ⟨_,_,rfl⟩ | ⟨_,h,_⟩
    · exact absurd h U
    · exact⟨rfl,hb⟩
    · exact absurd h R))
   have n:=zI (show Jdw s= .bad 22 (cutE 1 (Jb7 s)) from by unfold Jdw;rw[qay U,qa0 R]);clear t;generalize cutE 1 (Jb7 s)=q at*;go_enter Tryz.func94,Tryz.ntmps94
   go_wp2_with (first
    | (go_at_call 163;refine T.out.mono ?_;rintro e w1 ⟨rfl,x⟩
       have b1:=b0.below x;have q0:=b1.at_ 0 rfl;have q1:=b1.at_ 1 rfl;have f0:=b1.free 0;have f1:=b1.free 1))
   have X:=((b1.set 0 (.string ⟨#[]⟩)).set 1 ());have x0:((w1.setCell ⟨w.heap.size,0,none⟩ (.string ⟨#[]⟩)).setCell ⟨w.heap.size,1,none⟩ ()).cell? ⟨w.heap.size,0,none⟩=some (.string ⟨#[]⟩):=X.at_ 0 rfl;have x1:((w1.setCell ⟨w.heap.size,0,none⟩ (.string ⟨#[]⟩)).setCell ⟨w.heap.size,1,none⟩ ()).cell? ⟨w.heap.size,1,none⟩=some (.slice none 0 0):=X.at_ 1 rfl;have z:Below w.heap.size w ((w1.setCell ⟨w.heap.size,0,none⟩ (.string ⟨#[]⟩)).setCell ⟨w.heap.size,1,none⟩ ()):=((y.trans (x.mono y.size)).setCell (qab _) _).setCell (qab _) _;clear X;generalize HW:((w1.setCell ⟨w.heap.size,0,none⟩ (.string ⟨#[]⟩)).setCell ⟨w.heap.size,1,none⟩ ())=W at x0 x1 z ⊢;refine qa6 (v:= .tuple #[polV ⟨#[]⟩ none 0 0,(22:Int),(q:Int)]) (by simp[results,Tryz.results94,go_sem,x0,x1]) rfl ⟨?_,z⟩;rw[n.out];rfl
 have P:cutE 1 (Jb7 s)=0:=Decidable.of_not_not R
 have T:=zI (t.mono (R':=fun e w'=>(∃g,(w.alloc (.cells #[ByteArray.empty,()] 101)).heap.size<=g/\e= .returned (.tuple #[(g:Nat),(0:Int),(0:Int)])/\Jbb w' g 0 (cutW 1 (Jb7 s)))/\Below (w.alloc (.cells #[ByteArray.empty,()] 101)).heap.size (w.alloc (.cells #[ByteArray.empty,()] 101)) w') (fun e w' ⟨hb,hc⟩=>by
  rcases hc with⟨h,_⟩ | ⟨_,h,_⟩ | ⟨_,_,h⟩
  · exact absurd h U
  · exact absurd P h
  · exact⟨h,hb⟩))
 have n:=zI (show Jdw s=Jdg (cutW 1 (Jb7 s)) from by unfold Jdw;rw[qay U,qay R]);have l:=zI (Jwl s (by omega));clear t R P U;obtain⟨ws,O⟩:=exE (cutW 1 (Jb7 s));rw[<- O] at T n l;rw[n.out];clear O n;go_enter Tryz.func94,Tryz.ntmps94
 go_wp2_with (first
  | (go_at_call 163;refine T.out.mono ?_;rintro e w1 ⟨⟨g,D,rfl,N⟩,x⟩
     have b1:=b0.below x))
 obtain⟨gl,c⟩:=exE w1.heap.size;have j:=(qaa w1.heap.size w1).alloc (qab _) (.cells #[g,.string ⟨#[]⟩,()] 264)
 have P0:PS w1 (w1.alloc (.cells #[g,.string ⟨#[]⟩,()] 264)) g gl 0 ws ⟨#[]⟩ () []:=
  ⟨N,⟨N.below j,Jab j _,j.cell (p:=⟨g,1,none⟩) N.lt,j.frozen (p:=⟨g,1,none⟩) N.lt⟩,c ▸ Bx.new w1 _ _,qaz _ _ _ _,Nat.le_of_eq c.symm,by simp,by simp,by decide⟩
 have hJ:w.heap.size<g:=by simp at D;omega
 rw[<- c];generalize w1.alloc (.cells #[g,.string ⟨#[]⟩,()] 264)=w0 at*;clear j N c D;go_loopw [9,10,11,12] (fun f _ _ _ wr=>∃ (fb:Bool) (a:Nat) (nm:ByteArray) (v:Value) (ts:List Ti),f= .bool fb/\J9u w1 wr g gl ws fb a nm v ts) (fun f _ _ _ wr=>Jzn f+(ws.length - cellA wr g))
 case atStart=>exact⟨true,0,_,_,_,rfl,⟨P0,fun _=>⟨rfl,rfl⟩,fun e=>by cases e⟩⟩
 case round =>
  clear P0;obtain⟨fb,a,nm,v,ts,rfl,M⟩:=hrel;have o:=zI M;have c0:=M.ps.bx.at_ 0 rfl;have Ha:=M.ps.le;have C:=M.ps.mem.at_.few;clear M;cases fb
  · obtain ⟨f,hf,b⟩:=o.out.rest rfl
    by_cases u:a<ws.length
    · have Y :ws.drop a≠[]:=fun e=>by have:=congrArg List.length e;simp at this;omega
      have B:1<=(Ja3 a ws).length:=by rw[Jf6];exact Jvz _ Y
      have J:=zI (show a+(Ja3 a ws).length>a from by omega);have I:decide ((((ws.length - a:Nat):Int))>0)=true:=qaj (by omega);cases f with
      | zero=>omega
      | succ f=>
        have K:=zI (show(if Jdf (txts (Ja3 a ws)) ts.length=true then Jg1 nm.toList f (ws.drop (a+(Ja3 a ws).length)) (ts++[Jnv (txts (Ja3 a ws))]) else .bad 22 (Jcr (ws.drop a)))=Jdg ws from by
         rw[<- b,Jf6,<- qdj];show _=(if ws.drop a=[] then _ else _);rw[qay Y];rfl)
        clear b Y;cases hok:Jdf (txts (Ja3 a ws)) ts.length
        · have n:=zI (show Jdg ws= .bad 22 (Jcr (ws.drop a)) from by rw[<- K.out,hok];rfl)
          clear K
          go_wp2_with (first
           | (go_at_call 164;refine(Jkn _ _ _ _ o.out.ps.mem.at_).mono ?_;rintro e w2 ⟨rfl,i⟩
              have P2:=zI (o.out.ps.below i);have c0:=P2.out.bx.at_ 0 rfl)
           | (go_at_call 165;refine(Jjy _ _ _ _ P2.out.mem.at_ u).mono ?_;rintro e w3 ⟨⟨tt,cc,rfl⟩,r⟩
              have P3:=zI ((P2.out.below r).below ((qaa _ _).alloc (qab _) (.cells #[tt,(Jcr (ws.drop a):Int),(cc:Int)] 266)));have BW:=Bx.new w3 266 #[tt,(Jcr (ws.drop a):Int),(cc:Int)];have z1:=BW.at_ 1 rfl)
           | (go_at_call 167;refine(Jql w1 _ g gl a ws nm v ts P3.out l.out).mono ?_;rw[hok];rintro e w4 ⟨rfl,v',ts',P4,L⟩
              have b4:=P4.box b1 (by omega);have q0:=b4.at_ 0 rfl;have q1:=b4.at_ 1 rfl;have f0:=b4.free 0;have f1:=b4.free 1))
          have X:=((b4.set 0 (.string ⟨#[]⟩)).set 1 ());have x0:((w4.setCell ⟨w.heap.size,0,none⟩ (.string ⟨#[]⟩)).setCell ⟨w.heap.size,1,none⟩ ()).cell? ⟨w.heap.size,0,none⟩=some (.string ⟨#[]⟩):=X.at_ 0 rfl;have x1:((w4.setCell ⟨w.heap.size,0,none⟩ (.string ⟨#[]⟩)).setCell ⟨w.heap.size,1,none⟩ ()).cell? ⟨w.heap.size,1,none⟩=some (.slice none 0 0):=X.at_ 1 rfl;have z:Below w.heap.size w ((w4.setCell ⟨w.heap.size,0,none⟩ (.string ⟨#[]⟩)).setCell ⟨w.heap.size,1,none⟩ ()):=((P4.from_ (y.trans (x.mono y.size)) (by omega)).setCell (qab _) _).setCell (qab _) _;clear X;generalize HW:((w4.setCell ⟨w.heap.size,0,none⟩ (.string ⟨#[]⟩)).setCell ⟨w.heap.size,1,none⟩ ())=W at x0 x1 z ⊢;refine qa6 (v:= .tuple #[polV ⟨#[]⟩ none 0 0,(22:Int),(Jcr (ws.drop a):Int)]) (by simp[results,Tryz.results94,go_sem,x0,x1]) rfl ⟨?_,z⟩;rw[n.out];rfl
        · have H:=zI (show ∀ts',ts'=ts++[Jnv (txts (Ja3 a ws))] ->∃f,ws.length - (a+(Ja3 a ws).length)<=f/\Jg1 nm.toList f (ws.drop (a+(Ja3 a ws).length)) ts'=Jdg ws from fun ts' e=>⟨f,by omega,by rw[e,<- K.out,hok,qa0 rfl]⟩)
          clear K
          go_wp2_with (first
           | (go_at_call 164;refine(Jkn _ _ _ _ o.out.ps.mem.at_).mono ?_;rintro e w2 ⟨rfl,i⟩
              have P2:=zI (o.out.ps.below i);have c0:=P2.out.bx.at_ 0 rfl)
           | (go_at_call 165;refine(Jjy _ _ _ _ P2.out.mem.at_ u).mono ?_;rintro e w3 ⟨⟨tt,cc,rfl⟩,r⟩
              have P3:=zI ((P2.out.below r).below ((qaa _ _).alloc (qab _) (.cells #[tt,(Jcr (ws.drop a):Int),(cc:Int)] 266)));have BW:=Bx.new w3 266 #[tt,(Jcr (ws.drop a):Int),(cc:Int)];have z1:=BW.at_ 1 rfl)
           | (go_at_call 167;refine(Jql w1 _ g gl a ws nm v ts P3.out l.out).mono ?_;rw[hok];rintro e w4 ⟨rfl,v',ts',P4,L⟩
              have P5:=zI P4))
          go_roundw
          case rel=>exact⟨false,_,_,_,_,rfl,⟨P5.out,fun e=>(by cases e),fun _=>H.out _ (L (by trivial))⟩⟩
          case measure=>rw[P5.out.cellA,o.out.ps.cellA];have:=J.out;have:=P5.out.le;simp[Jzn];omega
    · have G:a=ws.length:=by omega
      have I:decide ((((ws.length - a:Nat):Int))>0)=false:=qae (by omega)
      have n:=zI (show Jdg ws= .good nm.toList ts from by
       rw[<- b,qcj (by omega)];cases f<;>rfl)
      clear b G;obtain⟨Av,cv,rfl,_,_⟩:=own_slice o.out.ps.own
      go_wp2_with (first
       | (go_at_call 164;refine(Jkn _ _ _ _ o.out.ps.mem.at_).mono ?_;rintro e w2 ⟨rfl,i⟩
          have P2:=o.out.ps.below i;have c1:=P2.bx.at_ 1 rfl;have c2:=P2.bx.at_ 2 rfl;have b4:=P2.box b1 (by omega);have q0:=b4.at_ 0 rfl;have q1:=b4.at_ 1 rfl;have f0:=b4.free 0;have f1:=b4.free 1))
      have Z:((w2.setCell ⟨w.heap.size,0,none⟩ nm).setCell ⟨w.heap.size,1,none⟩ (.slice Av ts.length cv)).ownsRow w.heap.size 167 4 (.slice Av ts.length cv) ts.length (ts.flatMap Ti.cells):=by
       have A:w.heap.size+1<=w1.heap.size:=by have:=b1.lt;omega
       refine Jkc (Jbz (Jbz P2.own (fun k hk e=> ?_) _) (fun k hk e=> ?_) _) (by omega)
       · have:=(P2.own.lt k hk).1;simp at e;omega
       · have:=(P2.own.lt k hk).1;simp at e;omega
      have X:=((b4.set 0 nm).set 1 (.slice Av ts.length cv));have x0:((w2.setCell ⟨w.heap.size,0,none⟩ nm).setCell ⟨w.heap.size,1,none⟩ (.slice Av ts.length cv)).cell? ⟨w.heap.size,0,none⟩=some (.string nm):=X.at_ 0 rfl;have x1:((w2.setCell ⟨w.heap.size,0,none⟩ nm).setCell ⟨w.heap.size,1,none⟩ (.slice Av ts.length cv)).cell? ⟨w.heap.size,1,none⟩=some (.slice Av ts.length cv):=X.at_ 1 rfl;have z:Below w.heap.size w ((w2.setCell ⟨w.heap.size,0,none⟩ nm).setCell ⟨w.heap.size,1,none⟩ (.slice Av ts.length cv)):=((P2.from_ (y.trans (x.mono y.size)) (by omega)).setCell (qab _) _).setCell (qab _) _;clear X;generalize HW:((w2.setCell ⟨w.heap.size,0,none⟩ nm).setCell ⟨w.heap.size,1,none⟩ (.slice Av ts.length cv))=W at x0 x1 z ⊢;refine qa6 (v:= .tuple #[polV nm Av ts.length cv,(0:Int),(0:Int)]) (by simp[results,Tryz.results94,go_sem,x0,x1]) rfl ⟨?_,z⟩;rw[HW] at Z;rw[n.out];exact⟨Av,cv,by rw[show(⟨nm.toList.toArray⟩:ByteArray)=nm from by rw[qaw]],Z,P2.ok,by rw[Jac];exact P2.size,P2.few⟩
  · obtain ⟨rfl,rfl⟩:=o.out.one rfl
    have d:=zI (show Ja3 0 ws=Jdv ws from Jf6 0 ws);have F:=zI (show ws.drop 0=ws from rfl);cases hok:Jfl (txts (Ja3 0 ws))
    · by_cases u:0<ws.length
      · have n:=zI (show Jdg ws= .bad 22 (Jcr (ws.drop 0)) from by unfold Jdg;rw[<- d.out,hok,F.out];rfl)
        go_wp2_with (first
         | (go_at_call 165;refine(Jjy _ _ _ _ o.out.ps.mem.at_ u).mono ?_;rintro e w3 ⟨⟨tt,cc,rfl⟩,r⟩
            have P3:=zI ((o.out.ps.below r).below ((qaa _ _).alloc (qab _) (.cells #[tt,(Jcr (ws.drop 0):Int),(cc:Int)] 266)));have BW:=Bx.new w3 266 #[tt,(Jcr (ws.drop 0):Int),(cc:Int)];have z1:=BW.at_ 1 rfl)
         | (go_at_call 166;refine(Joh w1 _ g gl 0 ws nm v [] P3.out l.out).mono ?_;rw[hok];rintro e w4 ⟨rfl,nm',P4,V⟩
            have b4:=P4.box b1 (by omega);have q0:=b4.at_ 0 rfl;have q1:=b4.at_ 1 rfl;have f0:=b4.free 0;have f1:=b4.free 1))
        have X:=((b4.set 0 (.string ⟨#[]⟩)).set 1 ());have x0:((w4.setCell ⟨w.heap.size,0,none⟩ (.string ⟨#[]⟩)).setCell ⟨w.heap.size,1,none⟩ ()).cell? ⟨w.heap.size,0,none⟩=some (.string ⟨#[]⟩):=X.at_ 0 rfl;have x1:((w4.setCell ⟨w.heap.size,0,none⟩ (.string ⟨#[]⟩)).setCell ⟨w.heap.size,1,none⟩ ()).cell? ⟨w.heap.size,1,none⟩=some (.slice none 0 0):=X.at_ 1 rfl;have z:Below w.heap.size w ((w4.setCell ⟨w.heap.size,0,none⟩ (.string ⟨#[]⟩)).setCell ⟨w.heap.size,1,none⟩ ()):=((P4.from_ (y.trans (x.mono y.size)) (by omega)).setCell (qab _) _).setCell (qab _) _;clear X;generalize HW:((w4.setCell ⟨w.heap.size,0,none⟩ (.string ⟨#[]⟩)).setCell ⟨w.heap.size,1,none⟩ ())=W at x0 x1 z ⊢;refine qa6 (v:= .tuple #[polV ⟨#[]⟩ none 0 0,(22:Int),(Jcr (ws.drop 0):Int)]) (by simp[results,Tryz.results94,go_sem,x0,x1]) rfl ⟨?_,z⟩;rw[n.out];rfl
      · have n:=zI (show Jdg ws= .bad 22 1 from by
         have:ws=[]:=qa5 (by omega);unfold Jdg;rw[<- d.out,hok,this];rfl)
        go_wp2_with (first
         | (go_at_call 165;refine(J74 _ _ _ _ o.out.ps.mem.at_ u).mono ?_;rintro e w3 ⟨⟨tt,ll,cc,rfl⟩,r⟩
            have P3:=zI ((o.out.ps.below r).below ((qaa _ _).alloc (qab _) (.cells #[tt,(ll:Int),(cc:Int)] 266))))
         | (go_at_call 166;refine(Joh w1 _ g gl 0 ws nm v [] P3.out l.out).mono ?_;rw[hok];rintro e w4 ⟨rfl,nm',P4,V⟩
            have b4:=P4.box b1 (by omega);have q0:=b4.at_ 0 rfl;have q1:=b4.at_ 1 rfl;have f0:=b4.free 0;have f1:=b4.free 1))
        have X:=((b4.set 0 (.string ⟨#[]⟩)).set 1 ());have x0:((w4.setCell ⟨w.heap.size,0,none⟩ (.string ⟨#[]⟩)).setCell ⟨w.heap.size,1,none⟩ ()).cell? ⟨w.heap.size,0,none⟩=some (.string ⟨#[]⟩):=X.at_ 0 rfl;have x1:((w4.setCell ⟨w.heap.size,0,none⟩ (.string ⟨#[]⟩)).setCell ⟨w.heap.size,1,none⟩ ()).cell? ⟨w.heap.size,1,none⟩=some (.slice none 0 0):=X.at_ 1 rfl;have z:Below w.heap.size w ((w4.setCell ⟨w.heap.size,0,none⟩ (.string ⟨#[]⟩)).setCell ⟨w.heap.size,1,none⟩ ()):=((P4.from_ (y.trans (x.mono y.size)) (by omega)).setCell (qab _) _).setCell (qab _) _;clear X;generalize HW:((w4.setCell ⟨w.heap.size,0,none⟩ (.string ⟨#[]⟩)).setCell ⟨w.heap.size,1,none⟩ ())=W at x0 x1 z ⊢;refine qa6 (v:= .tuple #[polV ⟨#[]⟩ none 0 0,(22:Int),(1:Int)]) (by simp[results,Tryz.results94,go_sem,x0,x1]) rfl ⟨?_,z⟩;rw[n.out];rfl
    · have u:0<ws.length:=by
       rcases Nat.eq_zero_or_pos ws.length with E | E
       · have e:=qa5 E
         rw[d.out,e] at hok;exact absurd hok (by decide)
       · exact E
      have H:=zI (show ∀nm',nm'=(⟨(txt (txts (Ja3 0 ws)) 1).toArray⟩:ByteArray) ->Jg1 nm'.toList ws.length (ws.drop (0+(Ja3 0 ws).length)) []=Jdg ws from fun nm' e=>by
       unfold Jdg;rw[e,toList_mk,<- d.out,hok,qa0 rfl,qa7,d.out];rfl)
      go_wp2_with (first
       | (go_at_call 165;refine(Jjy _ _ _ _ o.out.ps.mem.at_ u).mono ?_;rintro e w3 ⟨⟨tt,cc,rfl⟩,r⟩
          have P3:=zI ((o.out.ps.below r).below ((qaa _ _).alloc (qab _) (.cells #[tt,(Jcr (ws.drop 0):Int),(cc:Int)] 266)));have BW:=Bx.new w3 266 #[tt,(Jcr (ws.drop 0):Int),(cc:Int)];have z1:=BW.at_ 1 rfl)
       | (go_at_call 166;refine(Joh w1 _ g gl 0 ws nm v [] P3.out l.out).mono ?_;rw[hok];rintro e w4 ⟨rfl,nm',P4,V⟩
          have P5:=zI P4))
      go_roundw
      case rel=>exact⟨false,_,_,_,_,rfl,⟨P5.out,fun e=>(by cases e),fun _=>⟨ws.length,by omega,H.out _ (V (by trivial))⟩⟩⟩
      case measure=>rw[P5.out.cellA,o.out.ps.cellA];simp[Jzn];omega
