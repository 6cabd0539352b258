/- Laws that the walk of the last text wants. -/
import Derived.WalkSpells
import Derived.WalkLawsBesides
import Derived.BigQuiet
import Derived.Lib.SplitLaws
import Derived.Test.YtglmhddbhhcjdaaGreatDoorC2
set_option maxRecDepth 100000
set_option linter.unusedSimpArgs false
set_option maxHeartbeats 4000000
namespace Go.Proofs.YtglmhddbhhcjdaaGreatDoor.Py
open Go.RowKit
structure Wd where
 text:List UInt8
 line:Int
 col:Int
def Jc4 (c:Int):Bool:=decide (c=32\/c=9)
def Jgf (c:Int):Bool:=decide (32<c/\c<127)
def okB (c:UInt8):Bool:=Jc4 c.toNat || Jgf c.toNat
def Jbe (c:UInt8):List Wd ->List Wd
 | []=>[]
 | [x]=>[⟨x.text++[c],x.line,x.col⟩]
 | x::y::r=>x::Jbe c (y::r)
structure LSt where
 out:List Wd
 op:Bool
 i:Nat
def Jea (n:Int) (s:LSt) (c:UInt8):LSt:=
 if Jc4 c.toNat=true then ⟨s.out,false,s.i+1⟩ else if s.op=true then ⟨Jbe c s.out,true,s.i+1⟩ else ⟨s.out++[⟨[c],n,(s.i:Int)+1⟩],true,s.i+1⟩
def lst (n:Int) (l:List UInt8):LSt:=l.foldl (Jea n) ⟨[],false,0⟩
theorem Jdi(n:Int)(l:List UInt8)(c:UInt8):lst n (l++[c])=Jea n (lst n l) c:=by simp[lst,qb8]
theorem Kag(n:Int)(l:List UInt8):(lst n l).i=l.length:=by
 obtain⟨m,rfl⟩:∃m:List UInt8,l=m.reverse:=⟨l.reverse,by simp⟩
 induction m with
 | nil=>rfl
 | cons c r ih=>
   rw[qby,Jdi];unfold Jea;split
   · simp only[ih];simp
   · split<;>(simp only[ih];simp)
theorem Jkd(c:UInt8):∀l,(Jbe c l).length=l.length
 | []=>rfl
 | [_]=>rfl
 | x::y::r=>by show _+1=_;rw[Jkd c (y::r)];rfl
theorem Jfp(c:UInt8)(x:Wd):∀l,Jbe c (l++[x])=l++[⟨x.text++[c],x.line,x.col⟩]
 | []=>rfl
 | [y]=>rfl
 | y::z::r=>by
   show y::Jbe c (z::r++[x])=_;rw[Jfp c x (z::r)];rfl
theorem Jr1(n:Int)(l:List UInt8):(lst n l).out.length<=l.length:=by
 obtain⟨m,rfl⟩:∃m:List UInt8,l=m.reverse:=⟨l.reverse,by simp⟩
 induction m with
 | nil=>simp[lst]
 | cons c r ih=>
   rw[qby,Jdi];unfold Jea;simp only[qad,qa3,qbo];split
   · simp only;omega
   · split
     · simp only[Jkd];omega
     · simp only[qad,qa3,qbo];omega
theorem Jke{c:UInt8}{y:Wd}:∀ {l:List Wd},y∈Jbe c l ->y∈l\/∃x∈l,y=⟨x.text++[c],x.line,x.col⟩
 | [],h=>by simp[Jbe] at h
 | [x],h=>by simp[Jbe] at h;exact .inr ⟨x,by simp,h⟩
 | x ::z::r,h=>by
   rcases qbb.1 (show y∈x::Jbe c (z::r) from h) with h | h
   · exact .inl (by simp[h])
   · rcases Jke h with h | ⟨q,w,e⟩
     · exact .inl (qc9 _ h)
     · exact .inr ⟨q,qc9 _ w,e⟩
theorem Jtu(n:Int)(l:List UInt8):∀x∈(lst n l).out,x.text≠[]/\x.line=n:=by
 obtain⟨m,rfl⟩:∃m:List UInt8,l=m.reverse:=⟨l.reverse,by simp⟩
 induction m with
 | nil=>simp[lst]
 | cons c r ih=>
   rw[qby,Jdi];unfold Jea;split
   · exact ih
   · split
     · intro y z
       rcases Jke z with h | ⟨q,w,rfl⟩
       · exact ih y h
       · exact⟨by simp,(ih q w).2⟩
     · intro y z
       rcases qbe.1 z with h | h
       · exact ih y h
       · simp at h;subst h;exact⟨by simp,rfl⟩
def Ja5 (x:Wd):Bool:=x.text.head? !=some 35
def Jah (n:Int) (l:List UInt8):List Wd:=(lst n l).out.takeWhile Ja5
theorem Jfq{α:Type}(p:α ->Bool):∀ (l:List α) (j:Nat) (h:j<l.length),(l.take j).all p=true ->p l[j]=false ->l.takeWhile p=l.take j
 | [],j,h,_,_=>by simp at h
 | x::r,0,_,_,hp=>by simp at hp;simp[hp]
 | x::r,j+1,h,ha,hp=>by
   simp at ha hp h;rw[List.take_succ_cons,qc2,qa0 ha.1,Jfq p r j h (by simpa using ha.2) hp]
theorem Jhr{α:Type}(p:α ->Bool)(l:List α)(h:l.all p=true):l.takeWhile p=l:=by
 induction l with
 | nil=>rfl
 | cons x r ih=>simp at h;rw[qc2,qa0 h.1,ih (by simpa using h.2)]
theorem Jhs(c:Int)(w:World):Cs 315 #[.int .u8 c] w (RS w (Jc4 c)):=by
 by_cases a:c=32<;>by_cases b:c=9
 all_goals
  have z:=zI (show Jc4 c=decide (c=32\/c=9) from rfl);go_enter Tryz.func315,Tryz.ntmps315;go_wp2;go_ret;refine⟨Jal ?_,rfl⟩;rw[show Jc4 _=decide (_\/_) from rfl];simp[a,b]
theorem Je2(c:Int)(w:World):Cs 316 #[.int .u8 c] w (RS w (Jgf c)):=by
 by_cases a:32<c<;>by_cases b:c<127
 all_goals
  go_enter Tryz.func316,Tryz.ntmps316;go_wp2;go_ret;refine⟨Jal ?_,rfl⟩;rw[show Jgf _=decide (_/\_) from rfl];simp[a,b]
def Jht (x:Wd):List Value:=[.string ⟨x.text.toArray⟩,(x.line:Int),(x.col:Int)]
def wrow (l:List Wd):List Value:=l.flatMap Jht
theorem Je3(l:List Wd):(wrow l).length=l.length*3:=by
 induction l with
 | nil=>rfl
 | cons x r ih=>simp[wrow,Jht] at ih ⊢;omega
theorem Jcs(l k:List Wd):wrow (l++k)=wrow l++wrow k:=by simp[wrow]
theorem Jhu(l:List Wd)(j:Nat)(h:j<l.length):(wrow l)[j*3]? =some (.string ⟨(l[j]).text.toArray⟩)/\(wrow l)[j*3+1]? =some (.int .i64 l[j].line)/\(wrow l)[j*3+2]? =some (.int .i64 l[j].col):=by
 induction l generalizing j with
 | nil=>simp at h
 | cons x r ih=>
   cases j with
   | zero=>exact⟨rfl,rfl,rfl⟩
   | succ j=>
     have z:=ih j (by simpa using h);have e:wrow (x::r)=Jht x++wrow r:=rfl
     have g:∀i,(Jht x++wrow r)[3+i]? =(wrow r)[i]? :=fun i=>by
      rw[qb6 (by simp[Jht])];simp[Jht]
     rw[e,show(j+1)*3=3+j*3 by omega,show 3+j*3+1=3+(j*3+1) by omega,show 3+j*3+2=3+(j*3+2) by omega,g,g,g]
     simpa using z
theorem J21(p:List Wd)(x:Wd)(t:List UInt8):(wrow (p++[x])).set (p.length*3) (.string ⟨t.toArray⟩)=wrow (p++[⟨t,x.line,x.col⟩]):=by
 rw[Jcs,Jcs,<- Je3,List.set_append_right _ _ (qab _)];simp[wrow,Jht]
theorem Jgg(s:ByteArray)(b e:Nat):s.extract b e=⟨((s.toList.take e).drop b).toArray⟩:=by
 apply ByteArray.ext;apply Array.ext';rw[qaw];simp[List.drop_take]
def Jxy (n:Int) (l:List UInt8) (bg:Int):Prop:=((lst n l).op=false/\bg= -1)\/((lst n l).op=true/\∃ (p:List Wd) (x:Wd),(lst n l).out=p++[x]/\0<=bg/\bg.toNat<l.length/\x.text=l.drop bg.toNat)
theorem Jxz(n:Int):Jxy n [] (-1):= .inl ⟨rfl,rfl⟩
theorem Jr2{n:Int}{l:List UInt8}{c:UInt8}(h:Jc4 c.toNat=true):Jxy n (l++[c]) (-1)/\(lst n (l++[c])).out=(lst n l).out:=by
 have e:lst n (l++[c])=⟨(lst n l).out,false,(lst n l).i+1⟩:=by rw[Jdi];unfold Jea;rw[qa0 h]
 exact⟨.inl ⟨by rw[e],rfl⟩,by rw[e]⟩
theorem Jx0{n:Int}{l:List UInt8}{c:UInt8}(h:Jc4 c.toNat=false)(ho:(lst n l).op=false):Jxy n (l++[c]) l.length/\(lst n (l++[c])).out=(lst n l).out++[⟨[c],n,(l.length:Int)+1⟩]:=by
 have e:lst n (l++[c])=⟨(lst n l).out++[⟨[c],n,(l.length:Int)+1⟩],true,(lst n l).i+1⟩:=by
  rw[Jdi];unfold Jea;rw[qay (by rw[h];decide),qay (by rw[ho];decide),Kag]
 refine⟨.inr ⟨by rw[e],(lst n l).out,⟨[c],n,(l.length:Int)+1⟩,by rw[e],by omega,by simp,?_⟩,by rw[e]⟩
 simp
theorem Jx1{n:Int}{l:List UInt8}{c:UInt8}{bg:Int}(h:Jc4 c.toNat=false){p:List Wd}{x:Wd}(ho:(lst n l).op=true)(h1:(lst n l).out=p++[x])(h2:0<=bg)(h3:bg.toNat<l.length)(h4:x.text=l.drop bg.toNat):
  Jxy n (l++[c]) bg/\(lst n (l++[c])).out=p++[⟨(l++[c]).drop bg.toNat,x.line,x.col⟩]:=by
 have e:lst n (l++[c])=⟨p++[⟨x.text++[c],x.line,x.col⟩],true,(lst n l).i+1⟩:=by
  rw[Jdi];unfold Jea;rw[qay (by rw[h];decide),qa0 ho,h1,Jfp]
 have e2:x.text++[c]=(l++[c]).drop bg.toNat:=by rw[h4,qct (by omega)]
 rw[e2] at e;exact⟨.inr ⟨by rw[e],p,_,by rw[e],h2,by simp;omega,rfl⟩,by rw[e]⟩
theorem Jr3(s:ByteArray)(k:Nat)(h:k<s.size):s.extract k (k+1)=⟨[s[k]].toArray⟩:=by
 rw[Jgg,Jcg s k h,qct (by rw[qao,Jac];omega),qcj (by rw[qao];omega)];rfl
theorem own_slice{w:World}{base:Nat}{e:TypeId}{size:Nat}{v:Value}{n:Nat}{xs:List Value}(h:w.ownsRow base e size v n xs):∃A c,v= .slice A n c/\n<=c/\Sl w A xs:=by
 rcases h.2 with⟨rfl,z⟩ | ⟨g,cap,cur,rfl,_,y,x,_,_,s⟩
 · subst z
   have:xs=[]:=qa5 (by rw[h.1];simp);subst this;exact⟨none,0,rfl,qab _,Sl.nil _ _⟩
 · exact⟨some ⟨g,0,none⟩,cap,rfl,x,⟨fun _=>⟨g,0,rfl,qcb y,fun j u hu=>by
    have t:j<n*size:=by rw[<- h.1];exact(qbs.1 hu).1
    rw[qa7,h.cellAt j t];exact hu⟩⟩⟩
theorem Jpc(x:Wd)(tb:ByteArray)(ht:tb=⟨x.text.toArray⟩)(h:x.text≠[]):∃hp:0<tb.size,Ja5 x= !(((tb[0]'hp).toNat:Int)==35):=by
 subst ht;obtain⟨t,ln,cl⟩:=x
 match t,h with
 | c::r,_=>
   refine⟨by simp[ByteArray.size],?_⟩;have e:(⟨(c::r).toArray⟩:ByteArray)[0]'(by simp[ByteArray.size])=c:=rfl;rw[e];unfold Ja5;simp only[List.head?_cons];rw[qcg]
   simp
   constructor
   · intro z y;exact z (UInt8.toNat_inj.1 (by have:(35:UInt8).toNat=35:=rfl;omega))
   · rintro z rfl;exact z (by decide)
theorem Jvu{w:World}{base:Nat}{e:TypeId}{size:Nat}{A:Option Addr}{n c j:Nat}{xs:List Value}(h:w.ownsRow base e size (.slice A n c) n xs)(hj:j<=n)(hA:A≠none):w.ownsRow base e size (.slice A j c) j (xs.take (j*size)):=by
 have z:j*size<=n*size:=Nat.mul_le_mul_right _ hj;refine⟨by rw[qao,h.1];omega,?_⟩;rcases h.2 with⟨e1,_⟩ | ⟨g,cap,cur,e1,y,x,s,v,u,t⟩
 · injection e1 with e1;exact absurd e1 hA
 · injection e1 with e1 _ e3
   subst e1 e3;exact .inr ⟨g,c,cur,rfl,y,x,by omega,v,u,by rw[<- t,List.take_take,Nat.min_eq_left z]⟩
theorem Jx2(l:List Wd)(j:Nat)(h:j<=l.length):(wrow l).take (j*3)=wrow (l.take j):=by
 have e:wrow l=wrow (l.take j)++wrow (l.drop j):=by rw[<- Jcs,qa8]
 have z:(wrow (l.take j)).length=j*3:=by rw[Je3,qao,Nat.min_eq_left h]
 rw[e,qcr (by omega),<- z,qca]
theorem own_below{w w':World}{base:Nat}{e:TypeId}{size:Nat}{v:Value}{n:Nat}{xs:List Value}(h:w.ownsRow base e size v n xs)(hb:Below w.heap.size w w'):w'.ownsRow base e size v n xs:=
 h.kept ⟨hb.os,hb.tape,hb.output,hb.size,fun i hi _=>hb.block i hi⟩ (Classical.em (v.ownBlock=none))
theorem Jx3{p:Wd ->Bool}{l:List Wd}{j:Nat}(h:j<l.length)(ha:(l.take j).all p=true)(hp:p l[j]=true):(l.take (j+1)).all p=true:=by
 rw[qam h,List.all_append,ha];simp[hp]
def J22 (n:Int) (l:List UInt8) (w:World) (e:Ending) (w':World):Prop:=
 (l.all okB=true/\∃v,e= .returned (.tuple #[v,true])/\w'.ownsRow w.heap.size 266 3 v (Jah n l).length (wrow (Jah n l))/\Below w.heap.size w w')\/
 (l.all okB=false/\e= .returned (.tuple #[(),false])/\Below w.heap.size w w')
theorem Jkf:(Tryz.prog.info? 266).map (fun i=>(i.zero,i.size,i.bytes))=some (some (.agg #[ByteArray.empty,(0:Int),(0:Int)]),3,32):=by kernel_rfl
theorem J9g{s:ByteArray}{k:Nat}(h:k<s.size)(hb:okB s[k]=false):s.toList.all okB=false:=by
 cases hh:s.toList.all okB
 · rfl
 · rw[qdr] at hh
   have:=hh _ (List.mem_of_getElem? (Jgc s k h));rw[hb] at this;cases this
theorem J6w{s:ByteArray}{k:Nat}(h:k<s.size)(ha:(s.toList.take k).all okB=true)(hb:okB s[k]=true):(s.toList.take (k+1)).all okB=true:=by
 rw[Jcg s k h,List.all_append,ha];simp[hb]
theorem J23(s:ByteArray)(n:Int)(w:World)(hs:s.size<=1000000)(_hn:0<=n/\n<=1000000):
  Cs 251 #[s,(n:Int)] w (J22 n s.toList w):=by
 obtain⟨i0,hi,Hb,Hc,Hd⟩:=qb2 Jkf;go_enter Tryz.func251,Tryz.ntmps251;go_wp2
 go_loopw [6,7,14] (fun v b i wr=>∃ (k:Nat) (bg:Int),k<=s.size/\i= .int .i64 k/\b= .int .i64 bg/\Jxy n (s.toList.take k) bg/\(s.toList.take k).all okB=true/\
   wr.ownsRow w.heap.size 266 3 v (lst n (s.toList.take k)).out.length (wrow (lst n (s.toList.take k)).out)/\Below w.heap.size w wr) (fun _ _ i _=>s.size - (intOf i).toNat)
 case atStart=>exact⟨0,-1,qaq _,rfl,rfl,Jxz n,rfl,qaz _ _ _ _,qaa _ _⟩
 case round=>
  obtain⟨k,bg,hk,rfl,rfl,F,T,z,y⟩:=hrel;have HA:=zI T;have E:=zI F;clear T F;by_cases Y:k<s.size
  · have q :=zI (Jcg s k Y)
    have o:=Jr1 n (s.toList.take k);have O:(s.toList.take k).length=k:=by rw[qao,Jac];omega
    rw[O] at o;have N:=zI O;clear O;cases hok:okB s[k]
    · have HF:=zI (J9g Y hok)
      unfold okB at hok;rw[qdk] at hok;obtain⟨o1,o2⟩:=hok
      go_wp2_with (first
       | (go_at_call 315;refine(Jhs _ _).mono ?_;rintro e w' ⟨rfl,rfl⟩)
       | (go_at_call 316;refine(Je2 _ _).mono ?_;rintro e w' ⟨rfl,rfl⟩))
      go_ret2;exact .inr ⟨HF.out,rfl,y⟩
    · have HN:=zI (J6w Y HA.out hok)
      cases D:Jc4 s[k].toNat
      · have o2:Jgf s[k].toNat=true:=by unfold okB at hok;rw[D] at hok;simpa using hok
        clear hok;rcases E.out with⟨C,S⟩ | ⟨C,p,x,S,h3,h4,h5⟩
        · have W:=zI (Jx0 (n:=n) D C)
          subst S;clear C
          go_wp2_with (first
           | (go_at_call 315;refine(Jhs _ _).mono ?_;rintro e w' ⟨rfl,rfl⟩)
           | (go_at_call 316;refine(Je2 _ _).mono ?_;rintro e w' ⟨rfl,rfl⟩)
           | (at_builtin;refine qdl _ rfl _ _ 362 rfl w.heap.size 266 i0 (.agg #[ByteArray.empty,(0:Int),(0:Int)]) 3 32 Tryz.underlying362 hi Hb Hc Hd rfl (by decide) _ _ _ rfl (z.alloc _) ⟨wr.heap.size,0,none⟩ 1 1 [(s.extract k (k+1)),(n:Int),(k+1:Int)] rfl rfl ?c1 ?c2 ?c3 ?c4 ?c5 ?_))
          case c1=>
           intro j u hj
           match j,hj with
           | 0,hj=>simp at hj;subst hj;simp[Addr.add]
           | 1,hj=>simp at hj;subst hj;simp[Addr.add]
           | 2,hj=>simp at hj;subst hj;simp[Addr.add]
          case c2=>intro u hu;simp at hu;rcases hu with rfl | rfl | rfl<;>rfl
          case c3=>unfold maxLen;omega
          case c4=>omega
          case c5=>have:=y.size;simp;omega
          intro v' w3 a d _;have He:=(y.alloc y.size _).grown d (by have:=y.size;simp;omega) (fun j hj=>(z.lt j hj).1);clear d
          have Z:(lst n (s.toList.take (k+1))).out.length=(lst n (s.toList.take k)).out.length+1/\wrow (lst n (s.toList.take (k+1))).out=wrow (lst n (s.toList.take k)).out++[.string (s.extract k (k+1)),.int .i64 n,.int .i64 ((k:Int)+1)]:=by
           rw[q.out,W.out.2,N.out,Jcs,Jr3 s k Y];exact⟨by simp,rfl⟩
          rw[<- Z.1,<- Z.2] at a;have V:=W.out.1;rw[N.out,<- q.out] at V;clear Z;go_wp2;go_roundw
          case rel=>exact⟨k+1,k,by omega,by go_num,rfl,V,HN.out,a,He⟩
          case measure=>simp[intOf];omega
        · obtain⟨g,cap,cur,rfl,hg⟩:∃g cap cur,u6= .slice (some ⟨g,0,none⟩) (lst n (s.toList.take k)).out.length cap/\wr.heap[g]? =some (.cells cur 266 (0,0)):=by
           rcases z.2 with⟨e,h0⟩ | ⟨g,cap,cur,e,_,hg,_⟩
           · exfalso;rw[S] at h0;simp at h0
           · exact⟨g,cap,cur,e,hg⟩
          have W:=zI (Jx1 (c:=s[k]) D C S h3 h4 h5);obtain⟨bn,V⟩:∃bn:Nat,bg=bn:=⟨bg.toNat,by omega⟩;subst V;have Hn:bn<k:=by have:=N.out;rw[this] at h4;simpa using h4
          have U:(lst n (s.toList.take k)).out.length=p.length+1:=by rw[S];simp
          rw[S] at z;simp only[qad,qa3,qbo,qa7] at z;rw[U] at o;rw[U]
          have Ho:wr.cell? ⟨g,p.length*3,none⟩=some (.string ⟨x.text.toArray⟩):=by
           rw[z.cellAt _ (by omega),(Jhu (p++[x]) p.length (by simp)).1];simp
          have Hp:wr.frozen? ⟨g,p.length*3,none⟩=false:=z.frozenAt _;have M:=z.stored (p.length*3) (s.extract bn (k+1))
          have R:(wrow (p++[x])).set (p.length*3) (s.extract bn (k+1))=wrow (lst n (s.toList.take (k+1))).out:=by
           rw[q.out,W.out.2,Jgg,q.out,J21];simp
          have K:(lst n (s.toList.take (k+1))).out.length=p.length+1:=by rw[q.out,W.out.2];simp
          rw[R,<- K] at M;have Hf:=zI M;have Hg:=zI K;have J:w.heap.size<=g:=(z.lt g rfl).1;clear C h3 h4 h5 hg M R K;have Hq:=zI S;have Hr:=zI U;clear S U
          go_wp2_with (first
           | (go_at_call 315;refine(Jhs _ _).mono ?_;rintro e w' ⟨rfl,rfl⟩)
           | (go_at_call 316;refine(Je2 _ _).mono ?_;rintro e w' ⟨rfl,rfl⟩))
          go_roundw
          case rel=>exact⟨k+1,bn,by omega,by go_num,rfl,by rw[q.out];exact W.out.1,HN.out,by have:=Hf.out.1;rw[Hg.out] at this ⊢;exact this,y.setCell J _⟩
          case measure=>simp[intOf];omega
      · have W:=zI (Jr2 (n:=n) (l:=s.toList.take k) D)
        clear hok
        go_wp2_with (first
         | (go_at_call 315;refine(Jhs _ _).mono ?_;rintro e w' ⟨rfl,rfl⟩)
         | (go_at_call 316;refine(Je2 _ _).mono ?_;rintro e w' ⟨rfl,rfl⟩))
        go_roundw
        case rel=>exact⟨k+1,-1,by omega,by go_num,rfl,by rw[q.out];exact W.out.1,HN.out,by rw[q.out,W.out.2];exact z,y⟩
        case measure=>simp[intOf];omega
  · have Hh:k=s.size:=by omega
    have f:s.toList.take k=s.toList:=qap (by rw[Jac];omega);rw[f] at z;have P:=zI (show s.toList.all okB=true from by have:=HA.out;rwa [f] at this);obtain⟨A,c,rfl,hc,B⟩:=own_slice z;have o:=Jr1 n s.toList;rw[Jac] at o;have hd:decide ((k:Int)<(s.size:Int))=false:=qae (by omega);clear Hh f HA E;obtain⟨L,hL⟩:=exE ((lst n s.toList).out);have I:=zI hL;have hJ:∀x∈L,x.text≠[]:=fun x hx=>(Jtu n s.toList x (by rw[<- hL];exact hx)).1;rw[<- hL] at z B o;rw[<- hL];clear hL;have Hi:=zI hJ;clear hJ;obtain⟨wo,Hj⟩:=exE wr;go_wp2_with fail
    subst Hj;go_loopw [62] (fun i wr=>∃j:Nat,j<=L.length/\i= .int .i64 j/\(L.take j).all Ja5=true/\Below wo.heap.size wo wr) (fun i _=>L.length - (intOf i).toNat)
    case atStart=>exact⟨0,qaq _,rfl,rfl,qaa _ _⟩
    case round=>
     obtain⟨j,hj,rfl,Ha,m⟩:=hrel;have H:=zI Ha;clear Ha;by_cases h:j<L.length
     · obtain⟨b,off,rfl,D,r⟩:=(B.below m).at_ (fun e=>by have:=congrArg List.length e;rw[Je3] at this;simp at this;omega)
       obtain⟨g1,g2,g3⟩:=Jhu L j h;have y1:=r _ _ g1;have y2:=r _ _ g2;have y3:=r _ _ g3;rw[<- qcd] at y2 y3;have Hk:=Hi.out _ (qan h);obtain⟨tb,G⟩:∃tb:ByteArray,tb=⟨L[j].text.toArray⟩:=⟨_,rfl⟩;rw[<- G] at y1;obtain⟨hp,t⟩:=Jpc L[j] tb G Hk;have Hs:j<=c:=by have:=qcw h;rw[I.out] at this;omega
       have own2:=own_below z m;clear r g1 g2 g3 G;cases hr:Ja5 L[j]
       · have HW:=zI (show Jah n s.toList=L.take j from by unfold Jah;rw[<- I.out];exact Jfq _ _ _ h H.out hr)
         rw[hr] at t
         have hq:((tb[0].toNat:Int)==35)=true:=by
          cases hh:((tb[0].toNat:Int)==35)
          · rw[hh] at t;cases t
          · rfl
         clear t hr;go_wp2_with fail
         go_ret2;have ho:=Jvu own2 (qcw h) (by simp);rw[Jx2 L j (qcw h),<- HW.out] at ho;have Hl:(Jah n s.toList).length=j:=(by rw[HW.out,qao,Nat.min_eq_left (qcw h)]);exact .inl ⟨P.out,_,rfl,by rw[Hl];exact own_below ho ((qaa _ _).alloc (qab _) _),(y.trans (m.mono y.size)).alloc (by have:=m.size;have:=y.size;omega) _⟩
       · have Hm:=zI (Jx3 h H.out hr)
         rw[hr] at t
         have hq:((tb[0].toNat:Int)==35)=false:=by
          cases hh:((tb[0].toNat:Int)==35)
          · rfl
          · rw[hh] at t;cases t
         clear t hr;go_wp2_with fail
         go_roundw
         case rel=>exact⟨j+1,by omega,by go_num,Hm.out,m.alloc m.size _⟩
         case measure=>simp[intOf];omega
     · have HW:=zI (show Jah n s.toList=L from by
        have:=H.out;rw[qap (by omega)] at this;unfold Jah;rw[<- I.out];exact Jhr _ _ this)
       have Ht:decide ((j:Int)<(L.length:Int))=false:=qae (by omega);go_wp2_with fail
       go_ret2;exact .inl ⟨P.out,_,rfl,by rw[HW.out];exact own_below z m,y.trans (m.mono y.size)⟩
def cutW:Int ->List (List UInt8) ->List Wd
 | _,[]=>[]
 | n,l::r=>Jah n l++cutW (n+1) r
def cutE:Int ->List (List UInt8) ->Int
 | _,[]=>0
 | n,l::r=>if l.all okB=true then cutE (n+1) r else n
theorem Jkg:∀ (a b:List (List UInt8)) (n:Int),cutW n (a++b)=cutW n a++cutW (n+a.length) b
 | [],b,n=>by simp[cutW]
 | x::r,b,n=>by
   show Jah n x++cutW (n+1) (r++b)=(Jah n x++cutW (n+1) r)++_;rw[Jkg r b (n+1),qas];have e:n+1+(r.length:Int)=n+((x::r).length:Int):=by simp only[qa3];omega
   rw[e]
theorem Jx4:∀ (a:List (List UInt8)) (x:List UInt8) (b:List (List UInt8)) (n:Int),(∀l∈a,l.all okB=true) ->x.all okB=false ->cutE n (a++x::b)=n+a.length
 | [],x,b,n,_,hx=>by simp[cutE,hx]
 | y::r,x,b,n,ha,hx=>by
   show(if y.all okB=true then cutE (n+1) (r++x::b) else n)=_;rw[qa0 (ha y (by simp)),Jx4 r x b (n+1) (fun l hl=>ha l (by simp[hl])) hx];simp only[qa3];omega
theorem Jpd:∀ (a:List (List UInt8)) (n:Int),(∀l∈a,l.all okB=true) ->cutE n a=0
 | [],_,_=>rfl
 | y::r,n,ha=>by
   show(if y.all okB=true then cutE (n+1) r else n)=0;rw[qa0 (ha y (by simp)),Jpd r (n+1) (fun l hl=>ha l (by simp[hl]))]
theorem Jnm(n:Int)(l:List UInt8):(Jah n l).length<=l.length:=by
 have z:=Jr1 n l;have y:(Jah n l).length<=(lst n l).out.length:=(List.takeWhile_sublist _).length_le;omega
def Jkh (s:ByteArray):List ByteArray:=Lib.splitB ⟨#[10]⟩ 0 (Lib.countB s ⟨#[10]⟩) s
def Jb7 (s:ByteArray):List (List UInt8):=(Jkh s).map ByteArray.toList
def Jar:List UInt8 ->List (List UInt8)
 | []=>[[]]
 | c::r=>if c=10 then []::Jar r else match Jar r with
   | []=>[[c]]
   | l::ls=>(c::l)::ls
theorem Jhv:∀l:List UInt8,(∀c∈l,c≠10) ->Jar l=[l]
 | [],_=>rfl
 | c::r,h=>by
   unfold Jar;rw[qay (h c (by simp)),Jhv r (fun x hx=>h x (by simp[hx]))]
theorem Jb0: ∀ (a r:List UInt8),(∀c∈a,c≠10) ->Jar (a++10::r)=a::Jar r
 | [], r, _ => by show Jar (10::r)=_;conv=>lhs;unfold Jar
                  rw[qa0 rfl]
 | c::a,r,h=>by
   show Jar (c::(a++10::r))=_
   conv=>lhs;unfold Jar
   rw[qay (h c (by simp)),Jb0 a r (fun x hx=>h x (by simp[hx]))]
theorem J24:∀ (k:Nat) (s:ByteArray),Lib.countB s ⟨#[10]⟩=k ->(Lib.splitB ⟨#[10]⟩ 0 k s).map ByteArray.toList=Jar s.toList:=by
 intro k
 induction k with
 | zero=>
   intro s t;rw[Lib.splitB_zero];rcases Lib.indexB_cases s ⟨#[10]⟩ with h | ⟨i,h,_⟩
   · have y:Lib.indexByte s.data.toList 10= -1:=by rw[<- Lib.index_one];exact h
     simp only[qbz,List.map_nil];rw[Jhv s.toList (fun c z=> ?_)];rw[qaw] at z;obtain⟨j,x,e⟩:=qb5 z;rintro rfl;exact Lib.indexByte_none y j (by rw[qah x,e])
   · have:=Lib.countB_hit s ⟨#[10]⟩ i (by decide) h
     omega
 | succ k ih=>
   intro s t;rcases Lib.indexB_cases s ⟨#[10]⟩ with h | ⟨i,h,p⟩
   · have:=Lib.countB_miss s ⟨#[10]⟩ h
     omega
   · have y:Lib.indexByte s.data.toList 10=i:=by rw[<- Lib.index_one];exact h
     obtain⟨u,r⟩:=Lib.indexByte_some y;have z:=Lib.countB_hit s ⟨#[10]⟩ i (by decide) h;rw[Lib.splitB_hit _ _ _ _ _ h,qbz,ih _ (by have:(⟨#[10]⟩:ByteArray).size=1:=rfl;rw[this] at z ⊢;omega)];have w:i<s.data.toList.length:=(qbs.1 u).1
     have e:s.toList=s.data.toList.take i++10::s.data.toList.drop (i+1):=by
      rw[qaw];have q:s.data.toList[i]=10:=(qbs.1 u).2;rw[<- q,<- qbm w,qa8]
     rw[e,Jb0 _ _ (fun c z=>by
      obtain⟨j,x,e2⟩:=qb5 z;rw[qao] at x;rw[List.getElem_take] at e2;rintro rfl;exact r j (by omega) (by rw[qah (by omega),e2]))]
     have v:(⟨#[10]⟩:ByteArray).size=1:=rfl;rw[v]
     congr 1
     · rw[Jgg,List.drop_zero,qaw (⟨_⟩:ByteArray),qaw s];rfl
     · rw[Jgg,qaw (⟨_⟩:ByteArray),qap (by rw[Jac];omega),qaw s]
theorem Jpe(s:ByteArray):Jb7 s=Jar s.toList:=J24 _ s rfl
theorem Jpf(s:ByteArray):(Jkh s).length=Lib.countB s ⟨#[10]⟩+1:=Lib.splitB_all ⟨#[10]⟩ (by decide) 0 _ s rfl
theorem Jx5(s:ByteArray):(Jkh s).length<=s.size+1:=by rw[Jpf];have:=Lib.countB_le ⟨#[10]⟩ (by decide) s.size s (qab _);omega
theorem Jje:∀ (l:List UInt8),∀x∈Jar l,x.length<=l.length
 | [],x,h=>by simp[Jar] at h;simp[h]
 | c ::r,x,h=>by
   have ih:=Jje r;unfold Jar at h;by_cases z:c=10
   · rw[qa0 z] at h
     rcases qbb.1 h with rfl | h
     · simp
     · have:=ih x h;simp;omega
   · rw[qay z] at h
     cases hl:Jar r with
     | nil=>rw[hl] at h;simp at h;subst h;simp
     | cons y ys=>
       rw[hl] at h ih;rcases qbb.1 h with rfl | h
       · have:=ih y (by simp);simp;omega
       · have:=ih x (by simp[h]);simp;omega
theorem Jl6(s:ByteArray):∀l∈Jkh s,l.size<=s.size:=by
 intro l z;have:=Jje s.toList l.toList (by rw[<- Jpe];exact qbn.2 ⟨l,z,rfl⟩)
 rwa [Jac,Jac] at this
