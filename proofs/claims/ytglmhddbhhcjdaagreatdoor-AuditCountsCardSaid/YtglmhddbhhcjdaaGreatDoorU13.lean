/-
  Several texts in one: TableRightA, TableRightB, TableRightC, WordFewB, WordFewC, WordFewA, PolLines, PolBuild.
-/
import Derived.Laws.BytesArg
import Derived.Laws.Concat
import Derived.Lib.SmallJoins
import Derived.Test.YtglmhddbhhcjdaaGreatDoorU5
import Derived.Test.YtglmhddbhhcjdaaGreatDoorU11
import Derived.Test.YtglmhddbhhcjdaaGreatDoorU12
set_option maxRecDepth 100000
set_option linter.unusedSimpArgs false
set_option maxHeartbeats 4000000
namespace Go.Proofs.YtglmhddbhhcjdaaGreatDoor
open Go.RowKit Go.Maps
theorem J52{g:Nat}{ev:Int}(r:Rc)(w:World)(c0:w.cell? ⟨g,0,none⟩=some (.int .i64 ev))(hs:r.nm.size<=maxLen)(ht: -9223372036854775808<=r.st/\r.st<=9223372036854775807)(he: -9223372036854775808<=ev/\ev<=9223372036854775807)(hv:Jaf r.nm.toList=false):Calls Tryz.prog 204 #[.pointer (some ⟨g,0,none⟩),r.val] w fun e w'=>e= .returned (.bool (Jau ev r))/\Below w.heap.size w w':=by
 have z:=qa9 w _ c0;simp only at z;have x:=zI hs;have y:Hid (_/\_):=zI ⟨ht,he⟩;clear hs;have v:=zI (show([r.nm].all fun s=>Jaf s.toList)=false from by simp[hv]);have u:=zI (show Jau ev r=false from by unfold Jau;simp[hv]);clear hv;go_enter Tryz.func204,Tryz.ntmps204;go_wp2
 first
  | (go_region_with (first
      | (go_at_call 168;refine(Jbp (some ⟨_,0,none⟩) 1 1 [r.nm] _ (by decide) rfl (by simpa using x.out) (fun _=>⟨_,0,rfl,one_cell (by simp[go_sem])⟩)).mono ?_;rw[v.out];rintro e w' ⟨rfl,rfl⟩)
      | (go_at_call 96;refine(Jlr r.st ev _ y.out.1 y.out.2).mono ?_;rw[HO.out];rintro e w' ⟨rfl,rfl⟩)
      | (go_at_call 271;refine(Jbq r.ag _).mono ?_;rw[HG.out];rintro e w' ⟨rfl,rfl⟩)))
  | fail
 all_goals
  go_wp2;go_ret;exact⟨Jaj u.out.symm,by repeat (first | exact qaa _ _ | refine Below.drew ?_ | refine qb0 ?_ (by simp;try omega) _)⟩
theorem J53{g:Nat}{ev:Int}(r:Rc)(w:World)(c0:w.cell? ⟨g,0,none⟩=some (.int .i64 ev))(hs:r.nm.size<=maxLen)(ht: -9223372036854775808<=r.st/\r.st<=9223372036854775807)(he: -9223372036854775808<=ev/\ev<=9223372036854775807)(hv:Jaf r.nm.toList=true)(h0: ¬ 0<=r.st):Calls Tryz.prog 204 #[.pointer (some ⟨g,0,none⟩),r.val] w fun e w'=>e= .returned (.bool (Jau ev r))/\Below w.heap.size w w':=by
 have z:=qa9 w _ c0;simp only at z;have x:=zI hs;have y:Hid (_/\_):=zI ⟨ht,he⟩;clear hs;have v:=zI (show([r.nm].all fun s=>Jaf s.toList)=true from by simp[hv]);have u:=zI (show Jau ev r=false from by unfold Jau;simp[h0]);have t:decide (0<=r.st)=false:=qat h0;clear hv;go_enter Tryz.func204,Tryz.ntmps204;go_wp2
 first
  | (go_region_with (first
      | (go_at_call 168;refine(Jbp (some ⟨_,0,none⟩) 1 1 [r.nm] _ (by decide) rfl (by simpa using x.out) (fun _=>⟨_,0,rfl,one_cell (by simp[go_sem])⟩)).mono ?_;rw[v.out];rintro e w' ⟨rfl,rfl⟩)
      | (go_at_call 96;refine(Jlr r.st ev _ y.out.1 y.out.2).mono ?_;rw[HO.out];rintro e w' ⟨rfl,rfl⟩)
      | (go_at_call 271;refine(Jbq r.ag _).mono ?_;rw[HG.out];rintro e w' ⟨rfl,rfl⟩)))
  | fail
 all_goals
  go_wp2;go_ret;exact⟨Jaj u.out.symm,by repeat (first | exact qaa _ _ | refine Below.drew ?_ | refine qb0 ?_ (by simp;try omega) _)⟩
theorem J54{g:Nat}{ev:Int}(r:Rc)(w:World)(c0:w.cell? ⟨g,0,none⟩=some (.int .i64 ev))(hs:r.nm.size<=maxLen)(ht: -9223372036854775808<=r.st/\r.st<=9223372036854775807)(he: -9223372036854775808<=ev/\ev<=9223372036854775807)(hv:Jaf r.nm.toList=true)(h0:0<=r.st)(ho:onB r.st ev=false):Calls Tryz.prog 204 #[.pointer (some ⟨g,0,none⟩),r.val] w fun e w'=>e= .returned (.bool (Jau ev r))/\Below w.heap.size w w':=by
 have z:=qa9 w _ c0;simp only at z;have x:=zI hs;have y:Hid (_/\_):=zI ⟨ht,he⟩;clear hs;have v:=zI (show([r.nm].all fun s=>Jaf s.toList)=true from by simp[hv]);have u:=zI ho;have t:=zI (show Jau ev r=false from by unfold Jau;simp[ho]);clear ho hv;go_enter Tryz.func204,Tryz.ntmps204;go_wp2
 first
  | (go_region_with (first
      | (go_at_call 168;refine(Jbp (some ⟨_,0,none⟩) 1 1 [r.nm] _ (by decide) rfl (by simpa using x.out) (fun _=>⟨_,0,rfl,one_cell (by simp[go_sem])⟩)).mono ?_;rw[v.out];rintro e w' ⟨rfl,rfl⟩)
      | (go_at_call 96;refine(Jlr r.st ev _ y.out.1 y.out.2).mono ?_;rw[u.out];rintro e w' ⟨rfl,rfl⟩)
      | (go_at_call 271;refine(Jbq r.ag _).mono ?_;rw[HG.out];rintro e w' ⟨rfl,rfl⟩)))
  | fail
 all_goals
  go_wp2;go_ret;exact⟨Jaj t.out.symm,by repeat (first | exact qaa _ _ | refine Below.drew ?_ | refine qb0 ?_ (by simp;try omega) _)⟩
end Go.Proofs.YtglmhddbhhcjdaaGreatDoor
namespace Go.Proofs.YtglmhddbhhcjdaaGreatDoor.Py
open Go.RowKit
theorem Ju4:∀l,Jar l≠[]
 | []=>by simp[Jar]
 | c::r=>by
   unfold Jar;split
   · simp
   · split<;>simp
theorem Jo8{x:UInt8}(hx:x≠10)(l:List UInt8):∃y ys,Jar l=y::ys/\Jar (x::l)=(x::y)::ys:=by
 match h:Jar l with
 | []=>exact absurd h (Ju4 l)
 | y::ys=>exact⟨y,ys,rfl,by rw[Jar,if_neg hx,h]⟩
theorem Jke:∀ (l:List UInt8) (n:Int),(∀x∈l,x=10\/okB x=true) ->cutE n (Jar l)=0
 | [],n,_=>by simp[Jar,cutE]
 | c ::l,n,h=>by
   by_cases y:c=10
   · subst y
     have e:Jar (10::l)=[]::Jar l:=(by rw[Jar,if_pos rfl]);rw[e];exact Jke l (n+1) (fun x hx=>h x (by simp[hx]))
   · obtain⟨z,zs,e1,e2⟩:=Jo8 y l
     have ih:=Jke l n (fun x hx=>h x (by simp[hx]));have w:okB c=true:=(h c (by simp)).resolve_left y;rw[e1] at ih;rw[e2,<- ih];show(if (c::z).all okB=true then cutE (n+1) zs else n)=(if z.all okB=true then cutE (n+1) zs else n);simp[w]
def Jfo (l:List UInt8):List (List UInt8):=txts (Jag 1 l)
structure J8d (a b:LSt):Prop where
 out:a.out.map (fun x=>(x.text,x.col))=b.out.map (fun x=>(x.text,x.col))
 op:a.op=b.op
 i:a.i=b.i
theorem Js7(c:UInt8):∀ (a b:List Wd),a.map (fun x=>(x.text,x.col))=b.map (fun x=>(x.text,x.col)) ->(Jbd c a).map (fun x=>(x.text,x.col))=(Jbd c b).map (fun x=>(x.text,x.col))
 | [],[],_=>rfl
 | [],y::r,h=>by simp at h
 | x::r,[],h=>by simp at h
 | [x],[y],h=>by simp at h;simp[Jbd,h]
 | [x],y::z::r,h=>by simp at h
 | x::z::r,[y],h=>by simp at h
 | x::z::r,y::u::q,h=>by
   show(x::Jbd c (z::r)).map _=(y::Jbd c (u::q)).map _;rw[qbb,qbb] at h ⊢;injection h with w v;rw[w,Js7 c (z::r) (u::q) v]
theorem J2c(n m:Int)(l:List UInt8):J8d (lst n l) (lst m l):=by
 obtain⟨k,rfl⟩:∃k:List UInt8,l=k.reverse:=⟨l.reverse,by simp⟩
 induction k with
 | nil=>exact⟨rfl,rfl,rfl⟩
 | cons c r ih=>
   rw[qbp,Jdd,Jdd];obtain⟨x,w,z⟩:=ih;unfold Jd0;by_cases y:Jcz c.toNat=true
   · rw[if_pos y,if_pos y];exact⟨x,rfl,by simp only[z]⟩
   · rw[if_neg y,if_neg y,w]
     split
     · exact⟨Js7 c _ _ x,rfl,by simp only[z]⟩
     · exact⟨by simp only[qaw,x,qbb,List.map_nil,z],rfl,by simp only[z]⟩
theorem Jfp:∀ (a b:List Wd),txts a=txts b ->txts (a.takeWhile Ja3)=txts (b.takeWhile Ja3)
 | [],[],_=>rfl
 | [],y::r,h=>by simp[txts] at h
 | x::r,[],h=>by simp[txts] at h
 | x ::r,y::q,h=>by
   have w:x.text::txts r=y.text::txts q:=h;injection w with z v;have e:Ja3 x=Ja3 y:=by unfold Ja3;rw[z]
   rw[qcy,qcy,e];split
   · show x.text::txts _=y.text::txts _
     rw[z,Jfp r q v]
   · rfl
theorem Jee(n:Int)(l:List UInt8):txts (Jag n l)=Jfo l:=by
 refine Jfp _ _ ?_;have h:=congrArg (List.map Prod.fst) (J2c n 1 l).out;rw[qa5,qa5] at h;exact h
theorem Jgv(n:Int)(l:List UInt8):∀x∈Jag n l,x.line=n:=fun x hx=>(Js3 n l x ((List.takeWhile_sublist _).subset hx)).2
theorem Jo9:∀ (ls:List (List UInt8)) (n:Int),∀x∈cutW n ls,n<=x.line
 | [],_,x,h=>by simp[cutW] at h
 | y::r,n,x,h=>by
   rcases qav.1 (show x∈Jag n y++cutW (n+1) r from h) with h | h
   · have:=Jgv n y x h;omega
   · have:=Jo9 r (n+1) x h;omega
theorem Jfq{p:Wd ->Bool}:∀ (a b:List Wd),(∀x∈a,p x=true) ->(∀x∈b,p x=false) ->(a++b).takeWhile p=a
 | [],[],_,_=>rfl
 | [],y::r,_,h=>by simp[h y (by simp)]
 | x::r,b,h,k=>by rw[qbt,qcy,if_pos (h x (by simp)),Jfq r b (fun y hy=>h y (by simp[hy])) k]
theorem Jlx{n:Int}{l:List UInt8}{r:List (List UInt8)}(h:Jag n l≠[]):Jdp (cutW n (l::r))=Jag n l/\Js6 (cutW n (l::r))=cutW (n+1) r/\Jcl (cutW n (l::r))=n:=by
 have z:=Jgv n l;have t:=Jo9 r (n+1);have e:cutW n (l::r)=Jag n l++cutW (n+1) r:=rfl
 have u:Jdp (cutW n (l::r))=Jag n l:=by
  rw[e]
  obtain⟨x,q,w⟩:∃x q,Jag n l=x::q:=by
   cases hh:Jag n l with
   | nil=>exact absurd hh h
   | cons x q=>exact⟨x,q,rfl⟩
  have v:=z x (by rw[w];simp);rw[w,qbt];show(x::(q++cutW (n+1) r)).takeWhile (fun y=>decide (y.line=x.line))=_;rw[<- qbt,<- w];refine Jfq _ _ (fun y hy=> ?_) (fun y hy=> ?_)
  · rw[z y hy,v];exact qa0 rfl
  · have:=t y hy;exact qat (by omega)
 refine⟨u,?_,?_⟩
 · unfold Js6
   rw[u,e,List.drop_left]
 · rw[e]
   cases hh:Jag n l with
   | nil=>exact absurd hh h
   | cons x q=>exact z x (by rw[hh];simp)
theorem Jhs{l:List Wd}:txts l=[]↔l=[]:=by cases l<;>simp[txts]
def Jdr (nm:List UInt8):Int ->List (List UInt8) ->List Ti ->Rd
 | _,[],acc=> .good nm acc
 | n,l::r,acc=>if Jfo l=[] then Jdr nm (n+1) r acc else if Jc9 (Jfo l) acc.length=true then Jdr nm (n+1) r (acc++[Jne (Jfo l)]) else .bad 22 n
theorem Jkf(nm:List UInt8):∀ (ls:List (List UInt8)) (n:Int) (f:Nat) (acc:List Ti),(cutW n ls).length<=f ->Jgu nm f (cutW n ls) acc=Jdr nm n ls acc
 | [],n,f,acc,_=>by
   cases f with
   | zero=>rfl
   | succ f=>show(if (cutW n [])=[] then _ else _)=_;rw[if_pos (show cutW n []=[] from rfl)];rfl
 | l ::r,n,f,acc,hf=>by
   unfold Jdr;by_cases h:Jag n l=[]
   · have e:cutW n (l::r)=cutW (n+1) r:=by show Jag n l++_=_;rw[h];rfl
     rw[if_pos (by rw[<- Jee n];exact Jhs.2 h),e,Jkf nm r (n+1) f acc (by rw[<- e];exact hf)]
   · obtain⟨v,u,t⟩:=Jlx (r:=r) h
     have y:cutW n (l::r)≠[]:=fun e=>h (List.append_eq_nil_iff.1 (show Jag n l++cutW (n+1) r=[] from e)).1;have x:(cutW n (l::r)).length=(Jag n l).length+(cutW (n+1) r).length:=qac;have w:0<(Jag n l).length:=qcv.2 h;rw[if_neg (fun e=>h (Jhs.1 (by rw[Jee n];exact e)))]
     match f,hf with
     | 0,hf=>omega
     | f+1,hf=>
       show(if cutW n (l::r)=[] then _ else _)=_;rw[if_neg y,v,u,t,Jee];by_cases z:Jc9 (Jfo l) acc.length=true
       · rw[if_pos z,if_pos z,Jkf nm r (n+1) f _ (by omega)]
       · rw[if_neg z,if_neg z]
def Jly:Int ->List (List UInt8) ->Rd
 | _,[]=> .bad 22 1
 | n,l::r=>if Jfo l=[] then Jly (n+1) r else if Jfd (Jfo l)=true then Jdr (txt (Jfo l) 1) (n+1) r [] else .bad 22 n
theorem Jpa:∀ (ls:List (List UInt8)) (n:Int),Jda (cutW n ls)=Jly n ls
 | [],n=>by
   show(if Jfd (txts (Jdp []))=true then _ else _)=_;rw[if_neg (by decide)];rfl
 | l ::r,n=>by
   unfold Jly;by_cases h:Jag n l=[]
   · have e:cutW n (l::r)=cutW (n+1) r:=by show Jag n l++_=_;rw[h];rfl
     rw[if_pos (by rw[<- Jee n];exact Jhs.2 h),e,Jpa r (n+1)]
   · obtain⟨y,x,w⟩:=Jlx (r:=r) h
     have z:(cutW n (l::r)).length=(Jag n l).length+(cutW (n+1) r).length:=qac;rw[if_neg (fun e=>h (Jhs.1 (by rw[Jee n];exact e)))];unfold Jda;rw[y,x,w,Jee,Jkf _ r (n+1) _ _ (by omega)]
theorem Jxd(s:ByteArray):Jdq s=if 4000<s.size then .bad 2 0 else if cutE 1 (Jar s.toList)≠0 then .bad 22 (cutE 1 (Jar s.toList)) else Jly 1 (Jar s.toList):=by
 unfold Jdq;rw[Jpa,Jo5]
def Jgq (n:Int) (s:LSt) (l:List UInt8):LSt:=l.foldl (Jd0 n) s
theorem Jfr(n:Int)(s:LSt)(a b:List UInt8):Jgq n s (a++b)=Jgq n (Jgq n s a) b:=by simp[Jgq,qbo]
theorem Ji0(n:Int):∀ (g:List UInt8) (o:List Wd) (p:Bool) (i:Nat),g≠[] ->(∀c∈g,Jcz c.toNat=true) ->Jgq n ⟨o,p,i⟩ g=⟨o,false,i+g.length⟩
 | [],_,_,_,h,_=>absurd rfl h
 | [c],o,p,i,_,h=>by
   show Jd0 n ⟨o,p,i⟩ c=_;unfold Jd0;rw[if_pos (h c (by simp))];rfl
 | c::d::r,o,p,i,_,h=>by
   have e:Jd0 n ⟨o,p,i⟩ c=⟨o,false,i+1⟩:=by unfold Jd0;rw[if_pos (h c (by simp))]
   show Jgq n (Jd0 n ⟨o,p,i⟩ c) (d::r)=_;rw[e,Ji0 n (d::r) o false (i+1) (by simp) (fun x hx=>h x (by simp[hx]))]
   simp;omega
theorem Jlz(n:Int):∀ (w:List UInt8) (p:List Wd) (x:Wd) (i:Nat),(∀c∈w,Jcz c.toNat=false) ->Jgq n ⟨p++[x],true,i⟩ w=⟨p++[⟨x.text++w,x.line,x.col⟩],true,i+w.length⟩
 | [],p,x,i,_=>by simp[Jgq]
 | c::r,p,x,i,h=>by
   have e:Jd0 n ⟨p++[x],true,i⟩ c=⟨p++[⟨x.text++[c],x.line,x.col⟩],true,i+1⟩:=by
    unfold Jd0;rw[if_neg (by rw[h c (by simp)];decide),if_pos rfl,Jfk]
   show Jgq n (Jd0 n ⟨p++[x],true,i⟩ c) r=_;rw[e,Jlz n r p _ (i+1) (fun y hy=>h y (by simp[hy]))]
   simp;omega
theorem Jl0(n:Int)(w:List UInt8)(o:List Wd)(i:Nat)(hne:w≠[])(h:∀c∈w,Jcz c.toNat=false):∃x:Wd,x.text=w/\Jgq n ⟨o,false,i⟩ w=⟨o++[x],true,i+w.length⟩:=by
 match w,hne with
 | c::r,_=>
   have e:Jd0 n ⟨o,false,i⟩ c=⟨o++[⟨[c],n,(i:Int)+1⟩],true,i+1⟩:=by
    unfold Jd0;rw[if_neg (by rw[h c (by simp)];decide),if_neg (by simp)]
   refine⟨⟨c::r,n,(i:Int)+1⟩,rfl,?_⟩;show Jgq n (Jd0 n ⟨o,false,i⟩ c) r=_;rw[e,Jlz n r o _ (i+1) (fun y hy=>h y (by simp[hy]))]
   simp;omega
structure Jkg (w:List UInt8):Prop where
 ne:w≠[]
 free:∀c∈w,Jcz c.toNat=false
structure Gap (g:List UInt8):Prop where
 ne:g≠[]
 blank:∀c∈g,Jcz c.toNat=true
def Jds (ps:List (List UInt8×List UInt8)):List UInt8:=ps.flatMap fun p=>p.1++p.2
theorem Jl1(n:Int):∀ (ps:List (List UInt8×List UInt8)) (o:List Wd) (i:Nat),(∀p∈ps,Jkg p.1/\Gap p.2) ->∃ws i',Jgq n ⟨o,false,i⟩ (Jds ps)=⟨o++ws,false,i'⟩/\txts ws=ps.map Prod.fst
 | [],o,i,_=>⟨[],i,by simp[Jds,Jgq],rfl⟩
 | p::r,o,i,h=>by
   obtain⟨z,y⟩:=h p (by simp);obtain⟨x,v,e1⟩:=Jl0 n p.1 o i z.ne z.free;obtain⟨ws,i',e2,w⟩:=Jl1 n r (o++[x]) (i+p.1.length+p.2.length) (fun q hq=>h q (by simp[hq]));refine⟨x::ws,i',?_,by simp[txts] at w ⊢;exact⟨v,w⟩⟩;show Jgq n _ ((p.1++p.2)++Jds r)=_;rw[Jfr,Jfr,e1,Ji0 n p.2 _ _ _ y.ne y.blank,e2];simp
def remG (g:List (List UInt8)):List (List UInt8):=g.takeWhile fun t=>t.head? !=some 35
theorem Jng:∀l:List Wd,txts (l.takeWhile Ja3)=remG (txts l)
 | []=>rfl
 | x::r=>by
   show _=List.takeWhile _ (x.text::txts r);rw[qcy,qcy];show txts (if Ja3 x=true then _ else _)=if Ja3 x=true then _ else _;split
   · show x.text::txts _=_;rw[Jng r];rfl
   · rfl
theorem Jl2(ps:List (List UInt8×List UInt8))(h:∀p∈ps,Jkg p.1/\Gap p.2)(w:List UInt8)(hw:Jkg w):Jfo (Jds ps++w)=remG (ps.map Prod.fst++[w])/\Jfo (Jds ps)=remG (ps.map Prod.fst):=by
 obtain⟨ws,i,e,z⟩:=Jl1 1 ps [] 0 h;obtain⟨x,y,e2⟩:=Jl0 1 w ws i hw.ne hw.free;have e0:lst 1 (Jds ps)=⟨ws,false,i⟩:=by show Jgq 1 ⟨[],false,0⟩ _=_;rw[e];rfl
 have e1:lst 1 (Jds ps++w)=⟨ws++[x],true,i+w.length⟩:=by
  show Jgq 1 ⟨[],false,0⟩ _=_;rw[Jfr,e];exact e2
 constructor
 · show txts ((lst 1 (Jds ps++w)).out.takeWhile Ja3)=_
   rw[e1,Jng];show remG (txts (ws++[x]))=_
   congr 1
   simp[txts] at z ⊢;rw[z,y];exact⟨rfl,rfl⟩
 · show txts ((lst 1 (Jds ps)).out.takeWhile Ja3)=_
   rw[e0,Jng];show remG (txts ws)=_;rw[z]
def Bld (w:World) (B b:Nat) (l:List UInt8):Prop:=Lib.IsBuilder 243 5 B b (Lib.byteCells l) w
theorem Bld.fresh(w:World):Bld (w.alloc (.cells #[.pointer none,.slice none 0 0] 243)) w.heap.size w.heap.size []:=Lib.fresh_isBuilder _ _ w
theorem Jlk(s:ByteArray):Lib.strCells s=Lib.byteCells s.toList:=by
 rw[ByteArray.toList_eq];rfl
theorem Jnh(l:List UInt8):(Lib.byteCells l).length=l.length:=by simp[Lib.byteCells]
theorem Jl3(B b:Nat)(l:List UInt8)(s:ByteArray)(w:World)(h:Bld w B b l)(hl:l.length+s.size<=1000000)(hB:B<=w.heap.size):
  Calls Tryz.prog 152 #[.pointer (some ⟨b,0,none⟩),.string s] w fun e w'=>e= .returned (.tuple #[.int .i64 s.size,.nilIface])/\Bld w' B b (l++s.toList)/\Below B w w':=by
 have X:=Any.Builder_WriteString (P:=Tryz.prog) (ρ:=Tryz.lays156_ren) {Tryz.lays156 with} Tryz.Builder_Extra_156 B b (Lib.byteCells l) s w h (by rw[Jnh];omega) hB;refine X.mono fun e w' ⟨he,h1,h2⟩=>⟨he,.inr ?_,h2⟩;rw[Jlk,<- Lib.byteCells_append] at h1;exact h1
theorem J55(B b:Nat)(l:List UInt8)(w:World)(h:Bld w B b l)(hB:B<=w.heap.size):
  Calls Tryz.prog 154 #[.pointer (some ⟨b,0,none⟩)] w fun e w'=>e= .returned (.string ⟨l.toArray⟩)/\Below B w w':=
 Tryz.Builder_String_any B b l w h hB
theorem Bld.below{w w':World}{B b:Nat}{l:List UInt8}(h:Bld w B b l)(hb:Below w.heap.size w w'):Bld w' B b l:=by
 have key:∀p,Lib.BuilderAt 243 5 B b p (Lib.byteCells l) w ->Lib.BuilderAt 243 5 B b p (Lib.byteCells l) w':=fun p hp=>by
  obtain⟨y,v,z,x,u⟩:=hp;refine⟨y,v,(hb.block b (lt_of_block z)).trans z,x.kept ⟨hb.os,hb.tape,hb.output,hb.size,fun i hi _=>hb.block i hi⟩ (Classical.em (v.ownBlock=none)),u⟩
 exact h.imp (key _) (key _)
end Go.Proofs.YtglmhddbhhcjdaaGreatDoor.Py
