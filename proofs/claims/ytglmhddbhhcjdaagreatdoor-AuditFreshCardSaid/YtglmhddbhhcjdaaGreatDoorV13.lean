/-
  Several texts in one: TableRightA, TableRightB, TableRightC, WordFewB, WordFewC, WordFewA, PolLines, PolBuild.
-/
import Derived.Laws.BytesArg
import Derived.Laws.Concat
import Derived.Lib.SmallJoins
import Derived.Test.YtglmhddbhhcjdaaGreatDoorV5
import Derived.Test.YtglmhddbhhcjdaaGreatDoorV11
import Derived.Test.YtglmhddbhhcjdaaGreatDoorV12
set_option maxRecDepth 100000
set_option linter.unusedSimpArgs false
set_option maxHeartbeats 4000000
namespace Go.Proofs.YtglmhddbhhcjdaaGreatDoor
open Go.RowKit Go.Maps
theorem J6n{g:Nat}{ev:Int}(r:Rc)(w:World)(c0:w.cell? ⟨g,0,none⟩=some (.int .i64 ev))(hs:r.nm.size<=maxLen)(ht: -9223372036854775808<=r.st/\r.st<=9223372036854775807)(he: -9223372036854775808<=ev/\ev<=9223372036854775807)(hv:Jaf r.nm.toList=false):Cs 204 #[g,r.val] w (RB w (Jat ev r)):=by
 have z:=qbh w _ c0;simp only at z;have x:=zI hs;have y:Hid (_/\_):=zI ⟨ht,he⟩;clear hs;have v:=zI (show([r.nm].all fun s=>Jaf s.toList)=false from by simp[hv]);have u:=zI (show Jat ev r=false from by unfold Jat;simp[hv]);clear hv;go_enter Tryz.func204,Tryz.ntmps204;go_wp2
 first
  | (go_region_with (first
      | (go_at_call 168;refine(Jbp (some ⟨_,0,none⟩) 1 1 [r.nm] _ (by decide) rfl (by simpa using x.out) (fun _=>⟨_,0,rfl,one_cell (by simp[go_sem])⟩)).mono ?_;rw[v.out];rintro e w' ⟨rfl,rfl⟩)
      | (go_at_call 96;refine(Jlq r.st ev _ y.out.1 y.out.2).mono ?_;rw[HO.out];rintro e w' ⟨rfl,rfl⟩)
      | (go_at_call 271;refine(Jbq r.ag _).mono ?_;rw[HG.out];rintro e w' ⟨rfl,rfl⟩)))
  | fail
 all_goals
  go_wp2;go_ret;exact⟨Jaj u.out.symm,by repeat (first | exact qaa _ _ | refine Below.drew ?_ | refine qdb ?_ (by simp;try omega) _)⟩
theorem J6o{g:Nat}{ev:Int}(r:Rc)(w:World)(c0:w.cell? ⟨g,0,none⟩=some (.int .i64 ev))(hs:r.nm.size<=maxLen)(ht: -9223372036854775808<=r.st/\r.st<=9223372036854775807)(he: -9223372036854775808<=ev/\ev<=9223372036854775807)(hv:Jaf r.nm.toList=true)(h0: ¬ 0<=r.st):Cs 204 #[g,r.val] w (RB w (Jat ev r)):=by
 have z:=qbh w _ c0;simp only at z;have x:=zI hs;have y:Hid (_/\_):=zI ⟨ht,he⟩;clear hs;have v:=zI (show([r.nm].all fun s=>Jaf s.toList)=true from by simp[hv]);have u:=zI (show Jat ev r=false from by unfold Jat;simp[h0]);have t:decide (0<=r.st)=false:=qae h0;clear hv;go_enter Tryz.func204,Tryz.ntmps204;go_wp2
 first
  | (go_region_with (first
      | (go_at_call 168;refine(Jbp (some ⟨_,0,none⟩) 1 1 [r.nm] _ (by decide) rfl (by simpa using x.out) (fun _=>⟨_,0,rfl,one_cell (by simp[go_sem])⟩)).mono ?_;rw[v.out];rintro e w' ⟨rfl,rfl⟩)
      | (go_at_call 96;refine(Jlq r.st ev _ y.out.1 y.out.2).mono ?_;rw[HO.out];rintro e w' ⟨rfl,rfl⟩)
      | (go_at_call 271;refine(Jbq r.ag _).mono ?_;rw[HG.out];rintro e w' ⟨rfl,rfl⟩)))
  | fail
 all_goals
  go_wp2;go_ret;exact⟨Jaj u.out.symm,by repeat (first | exact qaa _ _ | refine Below.drew ?_ | refine qdb ?_ (by simp;try omega) _)⟩
theorem J6p{g:Nat}{ev:Int}(r:Rc)(w:World)(c0:w.cell? ⟨g,0,none⟩=some (.int .i64 ev))(hs:r.nm.size<=maxLen)(ht: -9223372036854775808<=r.st/\r.st<=9223372036854775807)(he: -9223372036854775808<=ev/\ev<=9223372036854775807)(hv:Jaf r.nm.toList=true)(h0:0<=r.st)(ho:onB r.st ev=false):Cs 204 #[g,r.val] w (RB w (Jat ev r)):=by
 have z:=qbh w _ c0;simp only at z;have x:=zI hs;have y:Hid (_/\_):=zI ⟨ht,he⟩;clear hs;have v:=zI (show([r.nm].all fun s=>Jaf s.toList)=true from by simp[hv]);have u:=zI ho;have t:=zI (show Jat ev r=false from by unfold Jat;simp[ho]);clear ho hv;go_enter Tryz.func204,Tryz.ntmps204;go_wp2
 first
  | (go_region_with (first
      | (go_at_call 168;refine(Jbp (some ⟨_,0,none⟩) 1 1 [r.nm] _ (by decide) rfl (by simpa using x.out) (fun _=>⟨_,0,rfl,one_cell (by simp[go_sem])⟩)).mono ?_;rw[v.out];rintro e w' ⟨rfl,rfl⟩)
      | (go_at_call 96;refine(Jlq r.st ev _ y.out.1 y.out.2).mono ?_;rw[u.out];rintro e w' ⟨rfl,rfl⟩)
      | (go_at_call 271;refine(Jbq r.ag _).mono ?_;rw[HG.out];rintro e w' ⟨rfl,rfl⟩)))
  | fail
 all_goals
  go_wp2;go_ret;exact⟨Jaj t.out.symm,by repeat (first | exact qaa _ _ | refine Below.drew ?_ | refine qdb ?_ (by simp;try omega) _)⟩
end Go.Proofs.YtglmhddbhhcjdaaGreatDoor
namespace Go.Proofs.YtglmhddbhhcjdaaGreatDoor.Py
open Go.RowKit
theorem Jvk:∀l,Jar l≠[]
 | []=>by simp[Jar]
 | c::r=>by
   unfold Jar;split
   · simp
   · split<;>simp
theorem Jpi{x:UInt8}(hx:x≠10)(l:List UInt8):∃y ys,Jar l=y::ys/\Jar (x::l)=(x::y)::ys:=by
 match h:Jar l with
 | []=>exact absurd h (Jvk l)
 | y::ys=>exact⟨y,ys,rfl,by rw[Jar,qav hx,h]⟩
theorem Jkd:∀ (l:List UInt8) (n:Int),(∀x∈l,x=10\/okB x=true) ->cutE n (Jar l)=0
 | [],n,_=>by simp[Jar,cutE]
 | c ::l,n,h=>by
   by_cases y:c=10
   · subst y
     have e:Jar (10::l)=[]::Jar l:=(by rw[Jar,qa2 rfl]);rw[e];exact Jkd l (n+1) (fun x hx=>h x (by simp[hx]))
   · obtain⟨z,zs,e1,e2⟩:=Jpi y l
     have ih:=Jkd l n (fun x hx=>h x (by simp[hx]));have w:okB c=true:=(h c (by simp)).resolve_left y;rw[e1] at ih;rw[e2,<- ih];show(if (c::z).all okB=true then cutE (n+1) zs else n)=(if z.all okB=true then cutE (n+1) zs else n);simp[w]
def Jfr (l:List UInt8):List (List UInt8):=txts (Jag 1 l)
structure J83 (a b:LSt):Prop where
 out:a.out.map (fun x=>(x.text,x.col))=b.out.map (fun x=>(x.text,x.col))
 op:a.op=b.op
 i:a.i=b.i
theorem Jti(c:UInt8):∀ (a b:List Wd),a.map (fun x=>(x.text,x.col))=b.map (fun x=>(x.text,x.col)) ->(Jbf c a).map (fun x=>(x.text,x.col))=(Jbf c b).map (fun x=>(x.text,x.col))
 | [],[],_=>rfl
 | [],y::r,h=>by simp at h
 | x::r,[],h=>by simp at h
 | [x],[y],h=>by simp at h;simp[Jbf,h]
 | [x],y::z::r,h=>by simp at h
 | x::z::r,[y],h=>by simp at h
 | x::z::r,y::u::q,h=>by
   show(x::Jbf c (z::r)).map _=(y::Jbf c (u::q)).map _;rw[qby,qby] at h ⊢;injection h with w v;rw[w,Jti c (z::r) (u::q) v]
theorem J2v(n m:Int)(l:List UInt8):J83 (lst n l) (lst m l):=by
 obtain⟨k,rfl⟩:∃k:List UInt8,l=k.reverse:=⟨l.reverse,by simp⟩
 induction k with
 | nil=>exact⟨rfl,rfl,rfl⟩
 | cons c r ih=>
   rw[qbw,Jde,Jde];obtain⟨x,w,z⟩:=ih;unfold Jd2;by_cases y:Jc0 c.toNat=true
   · rw[qa2 y,qa2 y];exact⟨x,rfl,by simp only[z]⟩
   · rw[qav y,qav y,w]
     split
     · exact⟨Jti c _ _ x,rfl,by simp only[z]⟩
     · exact⟨by simp only[qbf,x,qby,List.map_nil,z],rfl,by simp only[z]⟩
theorem Jfs:∀ (a b:List Wd),txts a=txts b ->txts (a.takeWhile Ja5)=txts (b.takeWhile Ja5)
 | [],[],_=>rfl
 | [],y::r,h=>by simp[txts] at h
 | x::r,[],h=>by simp[txts] at h
 | x ::r,y::q,h=>by
   have w:x.text::txts r=y.text::txts q:=h;injection w with z v;have e:Ja5 x=Ja5 y:=by unfold Ja5;rw[z]
   rw[qcy,qcy,e];split
   · show x.text::txts _=y.text::txts _
     rw[z,Jfs r q v]
   · rfl
theorem Jeg(n:Int)(l:List UInt8):txts (Jag n l)=Jfr l:=by
 refine Jfs _ _ ?_;have h:=congrArg (List.map Prod.fst) (J2v n 1 l).out;rw[qch,qch] at h;exact h
theorem Jgx(n:Int)(l:List UInt8):∀x∈Jag n l,x.line=n:=fun x hx=>(Jte n l x ((List.takeWhile_sublist _).subset hx)).2
theorem Jpj:∀ (ls:List (List UInt8)) (n:Int),∀x∈cutW n ls,n<=x.line
 | [],_,x,h=>by simp[cutW] at h
 | y::r,n,x,h=>by
   rcases qbc.1 (show x∈Jag n y++cutW (n+1) r from h) with h | h
   · have:=Jgx n y x h;omega
   · have:=Jpj r (n+1) x h;omega
theorem Jft{p:Wd ->Bool}:∀ (a b:List Wd),(∀x∈a,p x=true) ->(∀x∈b,p x=false) ->(a++b).takeWhile p=a
 | [],[],_,_=>rfl
 | [],y::r,_,h=>by simp[h y (by simp)]
 | x::r,b,h,k=>by rw[qdp,qcy,qa2 (h x (by simp)),Jft r b (fun y hy=>h y (by simp[hy])) k]
theorem Jlw{n:Int}{l:List UInt8}{r:List (List UInt8)}(h:Jag n l≠[]):Jdo (cutW n (l::r))=Jag n l/\Jth (cutW n (l::r))=cutW (n+1) r/\Jcn (cutW n (l::r))=n:=by
 have z:=Jgx n l;have t:=Jpj r (n+1);have e:cutW n (l::r)=Jag n l++cutW (n+1) r:=rfl
 have u:Jdo (cutW n (l::r))=Jag n l:=by
  rw[e]
  obtain⟨x,q,w⟩:∃x q,Jag n l=x::q:=by
   cases hh:Jag n l with
   | nil=>exact absurd hh h
   | cons x q=>exact⟨x,q,rfl⟩
  have v:=z x (by rw[w];simp);rw[w,qdp];show(x::(q++cutW (n+1) r)).takeWhile (fun y=>decide (y.line=x.line))=_;rw[<- qdp,<- w];refine Jft _ _ (fun y hy=> ?_) (fun y hy=> ?_)
  · rw[z y hy,v];exact qan rfl
  · have:=t y hy;exact qae (by omega)
 refine⟨u,?_,?_⟩
 · unfold Jth
   rw[u,e,List.drop_left]
 · rw[e]
   cases hh:Jag n l with
   | nil=>exact absurd hh h
   | cons x q=>exact z x (by rw[hh];simp)
theorem Jht{l:List Wd}:txts l=[]↔l=[]:=by cases l<;>simp[txts]
def Jdq (nm:List UInt8):Int ->List (List UInt8) ->List Ti ->Rd
 | _,[],acc=> .good nm acc
 | n,l::r,acc=>if Jfr l=[] then Jdq nm (n+1) r acc else if Jda (Jfr l) acc.length=true then Jdq nm (n+1) r (acc++[Jni (Jfr l)]) else .bad 22 n
theorem Jke(nm:List UInt8):∀ (ls:List (List UInt8)) (n:Int) (f:Nat) (acc:List Ti),(cutW n ls).length<=f ->Jgw nm f (cutW n ls) acc=Jdq nm n ls acc
 | [],n,f,acc,_=>by
   cases f with
   | zero=>rfl
   | succ f=>show(if (cutW n [])=[] then _ else _)=_;rw[qa2 (show cutW n []=[] from rfl)];rfl
 | l ::r,n,f,acc,hf=>by
   unfold Jdq;by_cases h:Jag n l=[]
   · have e:cutW n (l::r)=cutW (n+1) r:=by show Jag n l++_=_;rw[h];rfl
     rw[qa2 (by rw[<- Jeg n];exact Jht.2 h),e,Jke nm r (n+1) f acc (by rw[<- e];exact hf)]
   · obtain⟨v,u,t⟩:=Jlw (r:=r) h
     have y:cutW n (l::r)≠[]:=fun e=>h (List.append_eq_nil_iff.1 (show Jag n l++cutW (n+1) r=[] from e)).1;have x:(cutW n (l::r)).length=(Jag n l).length+(cutW (n+1) r).length:=qad;have w:0<(Jag n l).length:=qdo.2 h;rw[qav (fun e=>h (Jht.1 (by rw[Jeg n];exact e)))]
     match f,hf with
     | 0,hf=>omega
     | f+1,hf=>
       show(if cutW n (l::r)=[] then _ else _)=_;rw[qav y,v,u,t,Jeg];by_cases z:Jda (Jfr l) acc.length=true
       · rw[qa2 z,qa2 z,Jke nm r (n+1) f _ (by omega)]
       · rw[qav z,qav z]
def Jlx:Int ->List (List UInt8) ->Rd
 | _,[]=> .bad 22 1
 | n,l::r=>if Jfr l=[] then Jlx (n+1) r else if Jfg (Jfr l)=true then Jdq (txt (Jfr l) 1) (n+1) r [] else .bad 22 n
theorem Jpk:∀ (ls:List (List UInt8)) (n:Int),Jdb (cutW n ls)=Jlx n ls
 | [],n=>by
   show(if Jfg (txts (Jdo []))=true then _ else _)=_;rw[qav (by decide)];rfl
 | l ::r,n=>by
   unfold Jlx;by_cases h:Jag n l=[]
   · have e:cutW n (l::r)=cutW (n+1) r:=by show Jag n l++_=_;rw[h];rfl
     rw[qa2 (by rw[<- Jeg n];exact Jht.2 h),e,Jpk r (n+1)]
   · obtain⟨y,x,w⟩:=Jlw (r:=r) h
     have z:(cutW n (l::r)).length=(Jag n l).length+(cutW (n+1) r).length:=qad;rw[qav (fun e=>h (Jht.1 (by rw[Jeg n];exact e)))];unfold Jdb;rw[y,x,w,Jeg,Jke _ r (n+1) _ _ (by omega)]
theorem Jxw(s:ByteArray):Jdp s=if 4000<s.size then .bad 2 0 else if cutE 1 (Jar s.toList)≠0 then .bad 22 (cutE 1 (Jar s.toList)) else Jlx 1 (Jar s.toList):=by
 unfold Jdp;rw[Jpk,Jpf]
def Jgs (n:Int) (s:LSt) (l:List UInt8):LSt:=l.foldl (Jd2 n) s
theorem Jfu(n:Int)(s:LSt)(a b:List UInt8):Jgs n s (a++b)=Jgs n (Jgs n s a) b:=by simp[Jgs,qb0]
theorem Ji3(n:Int):∀ (g:List UInt8) (o:List Wd) (p:Bool) (i:Nat),g≠[] ->(∀c∈g,Jc0 c.toNat=true) ->Jgs n ⟨o,p,i⟩ g=⟨o,false,i+g.length⟩
 | [],_,_,_,h,_=>absurd rfl h
 | [c],o,p,i,_,h=>by
   show Jd2 n ⟨o,p,i⟩ c=_;unfold Jd2;rw[qa2 (h c (by simp))];rfl
 | c::d::r,o,p,i,_,h=>by
   have e:Jd2 n ⟨o,p,i⟩ c=⟨o,false,i+1⟩:=by unfold Jd2;rw[qa2 (h c (by simp))]
   show Jgs n (Jd2 n ⟨o,p,i⟩ c) (d::r)=_;rw[e,Ji3 n (d::r) o false (i+1) (by simp) (fun x hx=>h x (by simp[hx]))]
   simp;omega
theorem Jly(n:Int):∀ (w:List UInt8) (p:List Wd) (x:Wd) (i:Nat),(∀c∈w,Jc0 c.toNat=false) ->Jgs n ⟨p++[x],true,i⟩ w=⟨p++[⟨x.text++w,x.line,x.col⟩],true,i+w.length⟩
 | [],p,x,i,_=>by simp[Jgs]
 | c::r,p,x,i,h=>by
   have e:Jd2 n ⟨p++[x],true,i⟩ c=⟨p++[⟨x.text++[c],x.line,x.col⟩],true,i+1⟩:=by
    unfold Jd2;rw[qav (by rw[h c (by simp)];decide),qa2 rfl,Jfn]
   show Jgs n (Jd2 n ⟨p++[x],true,i⟩ c) r=_;rw[e,Jly n r p _ (i+1) (fun y hy=>h y (by simp[hy]))]
   simp;omega
theorem Jlz(n:Int)(w:List UInt8)(o:List Wd)(i:Nat)(hne:w≠[])(h:∀c∈w,Jc0 c.toNat=false):∃x:Wd,x.text=w/\Jgs n ⟨o,false,i⟩ w=⟨o++[x],true,i+w.length⟩:=by
 match w,hne with
 | c::r,_=>
   have e:Jd2 n ⟨o,false,i⟩ c=⟨o++[⟨[c],n,(i:Int)+1⟩],true,i+1⟩:=by
    unfold Jd2;rw[qav (by rw[h c (by simp)];decide),qav (by simp)]
   refine⟨⟨c::r,n,(i:Int)+1⟩,rfl,?_⟩;show Jgs n (Jd2 n ⟨o,false,i⟩ c) r=_;rw[e,Jly n r o _ (i+1) (fun y hy=>h y (by simp[hy]))]
   simp;omega
structure Jkf (w:List UInt8):Prop where
 ne:w≠[]
 free:∀c∈w,Jc0 c.toNat=false
structure Gap (g:List UInt8):Prop where
 ne:g≠[]
 blank:∀c∈g,Jc0 c.toNat=true
def Jdr (ps:List (List UInt8×List UInt8)):List UInt8:=ps.flatMap fun p=>p.1++p.2
theorem Jl0(n:Int):∀ (ps:List (List UInt8×List UInt8)) (o:List Wd) (i:Nat),(∀p∈ps,Jkf p.1/\Gap p.2) ->∃ws i',Jgs n ⟨o,false,i⟩ (Jdr ps)=⟨o++ws,false,i'⟩/\txts ws=ps.map Prod.fst
 | [],o,i,_=>⟨[],i,by simp[Jdr,Jgs],rfl⟩
 | p::r,o,i,h=>by
   obtain⟨z,y⟩:=h p (by simp);obtain⟨x,v,e1⟩:=Jlz n p.1 o i z.ne z.free;obtain⟨ws,i',e2,w⟩:=Jl0 n r (o++[x]) (i+p.1.length+p.2.length) (fun q hq=>h q (by simp[hq]));refine⟨x::ws,i',?_,by simp[txts] at w ⊢;exact⟨v,w⟩⟩;show Jgs n _ ((p.1++p.2)++Jdr r)=_;rw[Jfu,Jfu,e1,Ji3 n p.2 _ _ _ y.ne y.blank,e2];simp
def remG (g:List (List UInt8)):List (List UInt8):=g.takeWhile fun t=>t.head? !=some 35
theorem Jnk:∀l:List Wd,txts (l.takeWhile Ja5)=remG (txts l)
 | []=>rfl
 | x::r=>by
   show _=List.takeWhile _ (x.text::txts r);rw[qcy,qcy];show txts (if Ja5 x=true then _ else _)=if Ja5 x=true then _ else _;split
   · show x.text::txts _=_;rw[Jnk r];rfl
   · rfl
theorem Jl1(ps:List (List UInt8×List UInt8))(h:∀p∈ps,Jkf p.1/\Gap p.2)(w:List UInt8)(hw:Jkf w):Jfr (Jdr ps++w)=remG (ps.map Prod.fst++[w])/\Jfr (Jdr ps)=remG (ps.map Prod.fst):=by
 obtain⟨ws,i,e,z⟩:=Jl0 1 ps [] 0 h;obtain⟨x,y,e2⟩:=Jlz 1 w ws i hw.ne hw.free;have e0:lst 1 (Jdr ps)=⟨ws,false,i⟩:=by show Jgs 1 ⟨[],false,0⟩ _=_;rw[e];rfl
 have e1:lst 1 (Jdr ps++w)=⟨ws++[x],true,i+w.length⟩:=by
  show Jgs 1 ⟨[],false,0⟩ _=_;rw[Jfu,e];exact e2
 constructor
 · show txts ((lst 1 (Jdr ps++w)).out.takeWhile Ja5)=_
   rw[e1,Jnk];show remG (txts (ws++[x]))=_
   congr 1
   simp[txts] at z ⊢;rw[z,y];exact⟨rfl,rfl⟩
 · show txts ((lst 1 (Jdr ps)).out.takeWhile Ja5)=_
   rw[e0,Jnk];show remG (txts ws)=_;rw[z]
def Bld (w:World) (B b:Nat) (l:List UInt8):Prop:=Lib.IsBuilder 243 5 B b (Lib.byteCells l) w
theorem Bld.fresh(w:World):Bld (w.alloc (.cells #[.pointer none,.slice none 0 0] 243)) w.heap.size w.heap.size []:=Lib.fresh_isBuilder _ _ w
theorem Jlj(s:ByteArray):Lib.strCells s=Lib.byteCells s.toList:=by
 rw[qau];rfl
theorem Jnl(l:List UInt8):(Lib.byteCells l).length=l.length:=by simp[Lib.byteCells]
theorem Jl2(B b:Nat)(l:List UInt8)(s:ByteArray)(w:World)(h:Bld w B b l)(hl:l.length+s.size<=1000000)(hB:B<=w.heap.size):
  Cs 152 #[b,(s:ByteArray)] w fun e w'=>e= .returned (.tuple #[(s.size:Int),.nilIface])/\Bld w' B b (l++s.toList)/\Below B w w':=by
 have X:=Any.Builder_WriteString (P:=Tryz.prog) (ρ:=Tryz.lays156_ren) {Tryz.lays156 with} Tryz.Builder_Extra_156 B b (Lib.byteCells l) s w h (by rw[Jnl];omega) hB;refine X.mono fun e w' ⟨he,h1,h2⟩=>⟨he,.inr ?_,h2⟩;rw[Jlj,<- Lib.byteCells_append] at h1;exact h1
theorem J6q(B b:Nat)(l:List UInt8)(w:World)(h:Bld w B b l)(hB:B<=w.heap.size):
  Cs 154 #[b] w fun e w'=>e= .returned (.string ⟨l.toArray⟩)/\Below B w w':=
 Tryz.Builder_String_any B b l w h hB
theorem Bld.below{w w':World}{B b:Nat}{l:List UInt8}(h:Bld w B b l)(hb:Below w.heap.size w w'):Bld w' B b l:=by
 have key:∀p,Lib.BuilderAt 243 5 B b p (Lib.byteCells l) w ->Lib.BuilderAt 243 5 B b p (Lib.byteCells l) w':=fun p hp=>by
  obtain⟨y,v,z,x,u⟩:=hp;refine⟨y,v,(hb.block b (qb2 z)).trans z,x.kept ⟨hb.os,hb.tape,hb.output,hb.size,fun i hi _=>hb.block i hi⟩ (Classical.em (v.ownBlock=none)),u⟩
 exact h.imp (key _) (key _)
end Go.Proofs.YtglmhddbhhcjdaaGreatDoor.Py
