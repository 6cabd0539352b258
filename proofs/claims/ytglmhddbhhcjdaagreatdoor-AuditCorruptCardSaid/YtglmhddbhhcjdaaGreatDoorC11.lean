/- Laws that the walk of the last text wants. -/
import Derived.Lib.SmallJoins
import Derived.Test.YtglmhddbhhcjdaaGreatDoorC7
import Derived.Test.YtglmhddbhhcjdaaGreatDoorC8
set_option maxRecDepth 100000
set_option linter.unusedSimpArgs false
set_option maxHeartbeats 4000000
namespace Go.Proofs.YtglmhddbhhcjdaaGreatDoor
open Go.RowKit Go.Maps
theorem J7a{g:Nat}{ev:Int}(r:Rc)(w:World)(c0:w.cell? ⟨g,0,none⟩=some (.int .i64 ev))(hs:r.nm.size<=maxLen)(ht: -9223372036854775808<=r.st/\r.st<=9223372036854775807)(he: -9223372036854775808<=ev/\ev<=9223372036854775807)(hv:Jae r.nm.toList=false):Cs 204 #[g,r.val] w (RB w (Jau ev r)):=by
 have z:=qba w _ c0;simp only at z;have x:=zI hs;have y:Hid (_/\_):=zI ⟨ht,he⟩;clear hs;have v:=zI (show([r.nm].all fun s=>Jae s.toList)=false from by simp[hv]);have u:=zI (show Jau ev r=false from by unfold Jau;simp[hv]);clear hv;go_enter Tryz.func204,Tryz.ntmps204;go_wp2
 first
  | (go_region_with (first
      | (go_at_call 168;refine(Jbj (some ⟨_,0,none⟩) 1 1 [r.nm] _ (by decide) rfl (by simpa using x.out) (fun _=>⟨_,0,rfl,one_cell (by simp[go_sem])⟩)).mono ?_;rw[v.out];rintro e w' ⟨rfl,rfl⟩)
      | (go_at_call 96;refine(Jl8 r.st ev _ y.out.1 y.out.2).mono ?_;rw[HO.out];rintro e w' ⟨rfl,rfl⟩)
      | (go_at_call 271;refine(Jbi r.ag _).mono ?_;rw[HG.out];rintro e w' ⟨rfl,rfl⟩)))
  | fail
 all_goals
  go_wp2;go_ret;exact⟨Jal u.out.symm,by repeat (first | exact qaa _ _ | refine Below.drew ?_ | refine qc8 ?_ (by simp;try omega) _)⟩
theorem J7b{g:Nat}{ev:Int}(r:Rc)(w:World)(c0:w.cell? ⟨g,0,none⟩=some (.int .i64 ev))(hs:r.nm.size<=maxLen)(ht: -9223372036854775808<=r.st/\r.st<=9223372036854775807)(he: -9223372036854775808<=ev/\ev<=9223372036854775807)(hv:Jae r.nm.toList=true)(h0: ¬ 0<=r.st):Cs 204 #[g,r.val] w (RB w (Jau ev r)):=by
 have z:=qba w _ c0;simp only at z;have x:=zI hs;have y:Hid (_/\_):=zI ⟨ht,he⟩;clear hs;have v:=zI (show([r.nm].all fun s=>Jae s.toList)=true from by simp[hv]);have u:=zI (show Jau ev r=false from by unfold Jau;simp[h0]);have t:decide (0<=r.st)=false:=qae h0;clear hv;go_enter Tryz.func204,Tryz.ntmps204;go_wp2
 first
  | (go_region_with (first
      | (go_at_call 168;refine(Jbj (some ⟨_,0,none⟩) 1 1 [r.nm] _ (by decide) rfl (by simpa using x.out) (fun _=>⟨_,0,rfl,one_cell (by simp[go_sem])⟩)).mono ?_;rw[v.out];rintro e w' ⟨rfl,rfl⟩)
      | (go_at_call 96;refine(Jl8 r.st ev _ y.out.1 y.out.2).mono ?_;rw[HO.out];rintro e w' ⟨rfl,rfl⟩)
      | (go_at_call 271;refine(Jbi r.ag _).mono ?_;rw[HG.out];rintro e w' ⟨rfl,rfl⟩)))
  | fail
 all_goals
  go_wp2;go_ret;exact⟨Jal u.out.symm,by repeat (first | exact qaa _ _ | refine Below.drew ?_ | refine qc8 ?_ (by simp;try omega) _)⟩
theorem J7c{g:Nat}{ev:Int}(r:Rc)(w:World)(c0:w.cell? ⟨g,0,none⟩=some (.int .i64 ev))(hs:r.nm.size<=maxLen)(ht: -9223372036854775808<=r.st/\r.st<=9223372036854775807)(he: -9223372036854775808<=ev/\ev<=9223372036854775807)(hv:Jae r.nm.toList=true)(h0:0<=r.st)(ho:onB r.st ev=false):Cs 204 #[g,r.val] w (RB w (Jau ev r)):=by
 have z:=qba w _ c0;simp only at z;have x:=zI hs;have y:Hid (_/\_):=zI ⟨ht,he⟩;clear hs;have v:=zI (show([r.nm].all fun s=>Jae s.toList)=true from by simp[hv]);have u:=zI ho;have t:=zI (show Jau ev r=false from by unfold Jau;simp[ho]);clear ho hv;go_enter Tryz.func204,Tryz.ntmps204;go_wp2
 first
  | (go_region_with (first
      | (go_at_call 168;refine(Jbj (some ⟨_,0,none⟩) 1 1 [r.nm] _ (by decide) rfl (by simpa using x.out) (fun _=>⟨_,0,rfl,one_cell (by simp[go_sem])⟩)).mono ?_;rw[v.out];rintro e w' ⟨rfl,rfl⟩)
      | (go_at_call 96;refine(Jl8 r.st ev _ y.out.1 y.out.2).mono ?_;rw[u.out];rintro e w' ⟨rfl,rfl⟩)
      | (go_at_call 271;refine(Jbi r.ag _).mono ?_;rw[HG.out];rintro e w' ⟨rfl,rfl⟩)))
  | fail
 all_goals
  go_wp2;go_ret;exact⟨Jal t.out.symm,by repeat (first | exact qaa _ _ | refine Below.drew ?_ | refine qc8 ?_ (by simp;try omega) _)⟩
end Go.Proofs.YtglmhddbhhcjdaaGreatDoor
namespace Go.Proofs.YtglmhddbhhcjdaaGreatDoor.Py
open Go.RowKit
theorem Jv5:∀l,Jar l≠[]
 | []=>by simp[Jar]
 | c::r=>by
   unfold Jar;split
   · simp
   · split<;>simp
theorem Jpr{x:UInt8}(hx:x≠10)(l:List UInt8):∃y ys,Jar l=y::ys/\Jar (x::l)=(x::y)::ys:=by
 match h:Jar l with
 | []=>exact absurd h (Jv5 l)
 | y::ys=>exact⟨y,ys,rfl,by rw[Jar,qay hx,h]⟩
theorem Jkw:∀ (l:List UInt8) (n:Int),(∀x∈l,x=10\/okB x=true) ->cutE n (Jar l)=0
 | [],n,_=>by simp[Jar,cutE]
 | c ::l,n,h=>by
   by_cases y:c=10
   · subst y
     have e:Jar (10::l)=[]::Jar l:=(by rw[Jar,qa0 rfl]);rw[e];exact Jkw l (n+1) (fun x hx=>h x (by simp[hx]))
   · obtain⟨z,zs,e1,e2⟩:=Jpr y l
     have ih:=Jkw l n (fun x hx=>h x (by simp[hx]));have w:okB c=true:=(h c (by simp)).resolve_left y;rw[e1] at ih;rw[e2,<- ih];show(if (c::z).all okB=true then cutE (n+1) zs else n)=(if z.all okB=true then cutE (n+1) zs else n);simp[w]
def Jfv (l:List UInt8):List (List UInt8):=txts (Jah 1 l)
structure J9k (a b:LSt):Prop where
 out:a.out.map (fun x=>(x.text,x.col))=b.out.map (fun x=>(x.text,x.col))
 op:a.op=b.op
 i:a.i=b.i
theorem Jt3(c:UInt8):∀ (a b:List Wd),a.map (fun x=>(x.text,x.col))=b.map (fun x=>(x.text,x.col)) ->(Jbe c a).map (fun x=>(x.text,x.col))=(Jbe c b).map (fun x=>(x.text,x.col))
 | [],[],_=>rfl
 | [],y::r,h=>by simp at h
 | x::r,[],h=>by simp at h
 | [x],[y],h=>by simp at h;simp[Jbe,h]
 | [x],y::z::r,h=>by simp at h
 | x::z::r,[y],h=>by simp at h
 | x::z::r,y::u::q,h=>by
   show(x::Jbe c (z::r)).map _=(y::Jbe c (u::q)).map _;rw[qbz,qbz] at h ⊢;injection h with w v;rw[w,Jt3 c (z::r) (u::q) v]
theorem J3r(n m:Int)(l:List UInt8):J9k (lst n l) (lst m l):=by
 obtain⟨k,rfl⟩:∃k:List UInt8,l=k.reverse:=⟨l.reverse,by simp⟩
 induction k with
 | nil=>exact⟨rfl,rfl,rfl⟩
 | cons c r ih=>
   rw[qby,Jdi,Jdi];obtain⟨x,w,z⟩:=ih;unfold Jea;by_cases y:Jc4 c.toNat=true
   · rw[qa0 y,qa0 y];exact⟨x,rfl,by simp only[z]⟩
   · rw[qay y,qay y,w]
     split
     · exact⟨Jt3 c _ _ x,rfl,by simp only[z]⟩
     · exact⟨by simp only[qbg,x,qbz,List.map_nil,z],rfl,by simp only[z]⟩
theorem Jfw:∀ (a b:List Wd),txts a=txts b ->txts (a.takeWhile Ja5)=txts (b.takeWhile Ja5)
 | [],[],_=>rfl
 | [],y::r,h=>by simp[txts] at h
 | x::r,[],h=>by simp[txts] at h
 | x ::r,y::q,h=>by
   have w:x.text::txts r=y.text::txts q:=h;injection w with z v;have e:Ja5 x=Ja5 y:=by unfold Ja5;rw[z]
   rw[qc2,qc2,e];split
   · show x.text::txts _=y.text::txts _
     rw[z,Jfw r q v]
   · rfl
theorem Jen(n:Int)(l:List UInt8):txts (Jah n l)=Jfv l:=by
 refine Jfw _ _ ?_;have h:=congrArg (List.map Prod.fst) (J3r n 1 l).out;rw[qcl,qcl] at h;exact h
theorem Jg2(n:Int)(l:List UInt8):∀x∈Jah n l,x.line=n:=fun x hx=>(Jtu n l x ((List.takeWhile_sublist _).subset hx)).2
theorem Jps:∀ (ls:List (List UInt8)) (n:Int),∀x∈cutW n ls,n<=x.line
 | [],_,x,h=>by simp[cutW] at h
 | y::r,n,x,h=>by
   rcases qbe.1 (show x∈Jah n y++cutW (n+1) r from h) with h | h
   · have:=Jg2 n y x h;omega
   · have:=Jps r (n+1) x h;omega
theorem Jfx{p:Wd ->Bool}:∀ (a b:List Wd),(∀x∈a,p x=true) ->(∀x∈b,p x=false) ->(a++b).takeWhile p=a
 | [],[],_,_=>rfl
 | [],y::r,_,h=>by simp[h y (by simp)]
 | x::r,b,h,k=>by rw[qdq,qc2,qa0 (h x (by simp)),Jfx r b (fun y hy=>h y (by simp[hy])) k]
theorem Jmc{n:Int}{l:List UInt8}{r:List (List UInt8)}(h:Jah n l≠[]):Jdv (cutW n (l::r))=Jah n l/\Jtx (cutW n (l::r))=cutW (n+1) r/\Jcr (cutW n (l::r))=n:=by
 have z:=Jg2 n l;have t:=Jps r (n+1);have e:cutW n (l::r)=Jah n l++cutW (n+1) r:=rfl
 have u:Jdv (cutW n (l::r))=Jah n l:=by
  rw[e]
  obtain⟨x,q,w⟩:∃x q,Jah n l=x::q:=by
   cases hh:Jah n l with
   | nil=>exact absurd hh h
   | cons x q=>exact⟨x,q,rfl⟩
  have v:=z x (by rw[w];simp);rw[w,qdq];show(x::(q++cutW (n+1) r)).takeWhile (fun y=>decide (y.line=x.line))=_;rw[<- qdq,<- w];refine Jfx _ _ (fun y hy=> ?_) (fun y hy=> ?_)
  · rw[z y hy,v];exact qaj rfl
  · have:=t y hy;exact qae (by omega)
 refine⟨u,?_,?_⟩
 · unfold Jtx
   rw[u,e,List.drop_left]
 · rw[e]
   cases hh:Jah n l with
   | nil=>exact absurd hh h
   | cons x q=>exact z x (by rw[hh];simp)
theorem Jh1{l:List Wd}:txts l=[]↔l=[]:=by cases l<;>simp[txts]
def Jdz (nm:List UInt8):Int ->List (List UInt8) ->List Ti ->Rd
 | _,[],acc=> .good nm acc
 | n,l::r,acc=>if Jfv l=[] then Jdz nm (n+1) r acc else if Jdf (Jfv l) acc.length=true then Jdz nm (n+1) r (acc++[Jnv (Jfv l)]) else .bad 22 n
theorem Jkx(nm:List UInt8):∀ (ls:List (List UInt8)) (n:Int) (f:Nat) (acc:List Ti),(cutW n ls).length<=f ->Jg1 nm f (cutW n ls) acc=Jdz nm n ls acc
 | [],n,f,acc,_=>by
   cases f with
   | zero=>rfl
   | succ f=>show(if (cutW n [])=[] then _ else _)=_;rw[qa0 (show cutW n []=[] from rfl)];rfl
 | l ::r,n,f,acc,hf=>by
   unfold Jdz;by_cases h:Jah n l=[]
   · have e:cutW n (l::r)=cutW (n+1) r:=by show Jah n l++_=_;rw[h];rfl
     rw[qa0 (by rw[<- Jen n];exact Jh1.2 h),e,Jkx nm r (n+1) f acc (by rw[<- e];exact hf)]
   · obtain⟨v,u,t⟩:=Jmc (r:=r) h
     have y:cutW n (l::r)≠[]:=fun e=>h (List.append_eq_nil_iff.1 (show Jah n l++cutW (n+1) r=[] from e)).1;have x:(cutW n (l::r)).length=(Jah n l).length+(cutW (n+1) r).length:=qad;have w:0<(Jah n l).length:=qdd.2 h;rw[qay (fun e=>h (Jh1.1 (by rw[Jen n];exact e)))]
     match f,hf with
     | 0,hf=>omega
     | f+1,hf=>
       show(if cutW n (l::r)=[] then _ else _)=_;rw[qay y,v,u,t,Jen];by_cases z:Jdf (Jfv l) acc.length=true
       · rw[qa0 z,qa0 z,Jkx nm r (n+1) f _ (by omega)]
       · rw[qay z,qay z]
def Jmd:Int ->List (List UInt8) ->Rd
 | _,[]=> .bad 22 1
 | n,l::r=>if Jfv l=[] then Jmd (n+1) r else if Jfl (Jfv l)=true then Jdz (txt (Jfv l) 1) (n+1) r [] else .bad 22 n
theorem Jpt:∀ (ls:List (List UInt8)) (n:Int),Jdg (cutW n ls)=Jmd n ls
 | [],n=>by
   show(if Jfl (txts (Jdv []))=true then _ else _)=_;rw[qay (by decide)];rfl
 | l ::r,n=>by
   unfold Jmd;by_cases h:Jah n l=[]
   · have e:cutW n (l::r)=cutW (n+1) r:=by show Jah n l++_=_;rw[h];rfl
     rw[qa0 (by rw[<- Jen n];exact Jh1.2 h),e,Jpt r (n+1)]
   · obtain⟨y,x,w⟩:=Jmc (r:=r) h
     have z:(cutW n (l::r)).length=(Jah n l).length+(cutW (n+1) r).length:=qad;rw[qay (fun e=>h (Jh1.1 (by rw[Jen n];exact e)))];unfold Jdg;rw[y,x,w,Jen,Jkx _ r (n+1) _ _ (by omega)]
theorem Jyi(s:ByteArray):Jdw s=if 4000<s.size then .bad 2 0 else if cutE 1 (Jar s.toList)≠0 then .bad 22 (cutE 1 (Jar s.toList)) else Jmd 1 (Jar s.toList):=by
 unfold Jdw;rw[Jpt,Jpe]
def Jgx (n:Int) (s:LSt) (l:List UInt8):LSt:=l.foldl (Jea n) s
theorem Jfy(n:Int)(s:LSt)(a b:List UInt8):Jgx n s (a++b)=Jgx n (Jgx n s a) b:=by simp[Jgx,qb8]
theorem Jjf(n:Int):∀ (g:List UInt8) (o:List Wd) (p:Bool) (i:Nat),g≠[] ->(∀c∈g,Jc4 c.toNat=true) ->Jgx n ⟨o,p,i⟩ g=⟨o,false,i+g.length⟩
 | [],_,_,_,h,_=>absurd rfl h
 | [c],o,p,i,_,h=>by
   show Jea n ⟨o,p,i⟩ c=_;unfold Jea;rw[qa0 (h c (by simp))];rfl
 | c::d::r,o,p,i,_,h=>by
   have e:Jea n ⟨o,p,i⟩ c=⟨o,false,i+1⟩:=by unfold Jea;rw[qa0 (h c (by simp))]
   show Jgx n (Jea n ⟨o,p,i⟩ c) (d::r)=_;rw[e,Jjf n (d::r) o false (i+1) (by simp) (fun x hx=>h x (by simp[hx]))]
   simp;omega
theorem Jme(n:Int):∀ (w:List UInt8) (p:List Wd) (x:Wd) (i:Nat),(∀c∈w,Jc4 c.toNat=false) ->Jgx n ⟨p++[x],true,i⟩ w=⟨p++[⟨x.text++w,x.line,x.col⟩],true,i+w.length⟩
 | [],p,x,i,_=>by simp[Jgx]
 | c::r,p,x,i,h=>by
   have e:Jea n ⟨p++[x],true,i⟩ c=⟨p++[⟨x.text++[c],x.line,x.col⟩],true,i+1⟩:=by
    unfold Jea;rw[qay (by rw[h c (by simp)];decide),qa0 rfl,Jfp]
   show Jgx n (Jea n ⟨p++[x],true,i⟩ c) r=_;rw[e,Jme n r p _ (i+1) (fun y hy=>h y (by simp[hy]))]
   simp;omega
theorem Jmf(n:Int)(w:List UInt8)(o:List Wd)(i:Nat)(hne:w≠[])(h:∀c∈w,Jc4 c.toNat=false):∃x:Wd,x.text=w/\Jgx n ⟨o,false,i⟩ w=⟨o++[x],true,i+w.length⟩:=by
 match w,hne with
 | c::r,_=>
   have e:Jea n ⟨o,false,i⟩ c=⟨o++[⟨[c],n,(i:Int)+1⟩],true,i+1⟩:=by
    unfold Jea;rw[qay (by rw[h c (by simp)];decide),qay (by simp)]
   refine⟨⟨c::r,n,(i:Int)+1⟩,rfl,?_⟩;show Jgx n (Jea n ⟨o,false,i⟩ c) r=_;rw[e,Jme n r o _ (i+1) (fun y hy=>h y (by simp[hy]))]
   simp;omega
structure Jky (w:List UInt8):Prop where
 ne:w≠[]
 free:∀c∈w,Jc4 c.toNat=false
structure Gap (g:List UInt8):Prop where
 ne:g≠[]
 blank:∀c∈g,Jc4 c.toNat=true
def Jd0 (ps:List (List UInt8×List UInt8)):List UInt8:=ps.flatMap fun p=>p.1++p.2
theorem Jmg(n:Int):∀ (ps:List (List UInt8×List UInt8)) (o:List Wd) (i:Nat),(∀p∈ps,Jky p.1/\Gap p.2) ->∃ws i',Jgx n ⟨o,false,i⟩ (Jd0 ps)=⟨o++ws,false,i'⟩/\txts ws=ps.map Prod.fst
 | [],o,i,_=>⟨[],i,by simp[Jd0,Jgx],rfl⟩
 | p::r,o,i,h=>by
   obtain⟨z,y⟩:=h p (by simp);obtain⟨x,v,e1⟩:=Jmf n p.1 o i z.ne z.free;obtain⟨ws,i',e2,w⟩:=Jmg n r (o++[x]) (i+p.1.length+p.2.length) (fun q hq=>h q (by simp[hq]));refine⟨x::ws,i',?_,by simp[txts] at w ⊢;exact⟨v,w⟩⟩;show Jgx n _ ((p.1++p.2)++Jd0 r)=_;rw[Jfy,Jfy,e1,Jjf n p.2 _ _ _ y.ne y.blank,e2];simp
def remG (g:List (List UInt8)):List (List UInt8):=g.takeWhile fun t=>t.head? !=some 35
theorem Jnz:∀l:List Wd,txts (l.takeWhile Ja5)=remG (txts l)
 | []=>rfl
 | x::r=>by
   show _=List.takeWhile _ (x.text::txts r);rw[qc2,qc2];show txts (if Ja5 x=true then _ else _)=if Ja5 x=true then _ else _;split
   · show x.text::txts _=_;rw[Jnz r];rfl
   · rfl
theorem Jmh(ps:List (List UInt8×List UInt8))(h:∀p∈ps,Jky p.1/\Gap p.2)(w:List UInt8)(hw:Jky w):Jfv (Jd0 ps++w)=remG (ps.map Prod.fst++[w])/\Jfv (Jd0 ps)=remG (ps.map Prod.fst):=by
 obtain⟨ws,i,e,z⟩:=Jmg 1 ps [] 0 h;obtain⟨x,y,e2⟩:=Jmf 1 w ws i hw.ne hw.free;have e0:lst 1 (Jd0 ps)=⟨ws,false,i⟩:=by show Jgx 1 ⟨[],false,0⟩ _=_;rw[e];rfl
 have e1:lst 1 (Jd0 ps++w)=⟨ws++[x],true,i+w.length⟩:=by
  show Jgx 1 ⟨[],false,0⟩ _=_;rw[Jfy,e];exact e2
 constructor
 · show txts ((lst 1 (Jd0 ps++w)).out.takeWhile Ja5)=_
   rw[e1,Jnz];show remG (txts (ws++[x]))=_
   congr 1
   simp[txts] at z ⊢;rw[z,y];exact⟨rfl,rfl⟩
 · show txts ((lst 1 (Jd0 ps)).out.takeWhile Ja5)=_
   rw[e0,Jnz];show remG (txts ws)=_;rw[z]
def Bld (w:World) (B b:Nat) (l:List UInt8):Prop:=Lib.IsBuilder 243 5 B b (Lib.byteCells l) w
theorem Bld.fresh(w:World):Bld (w.alloc (.cells #[.pointer none,()] 243)) w.heap.size w.heap.size []:=Lib.fresh_isBuilder _ _ w
theorem Jlz(s:ByteArray):Lib.strCells s=Lib.byteCells s.toList:=by
 rw[qaw];rfl
theorem Jn0(l:List UInt8):(Lib.byteCells l).length=l.length:=by simp[Lib.byteCells]
theorem Jmi(B b:Nat)(l:List UInt8)(s:ByteArray)(w:World)(h:Bld w B b l)(hl:l.length+s.size<=1000000)(hB:B<=w.heap.size):
  Cs 152 #[b,(s:ByteArray)] w fun e w'=>e= .returned (.tuple #[(s.size:Int),.nilIface])/\Bld w' B b (l++s.toList)/\Below B w w':=by
 have X:=Any.Builder_WriteString (P:=Tryz.prog) (ρ:=Tryz.lays156_ren) {Tryz.lays156 with} Tryz.Builder_Extra_156 B b (Lib.byteCells l) s w h (by rw[Jn0];omega) hB;refine X.mono fun e w' ⟨he,h1,h2⟩=>⟨he,.inr ?_,h2⟩;rw[Jlz,<- Lib.byteCells_append] at h1;exact h1
theorem J7d(B b:Nat)(l:List UInt8)(w:World)(h:Bld w B b l)(hB:B<=w.heap.size):
  Cs 154 #[b] w fun e w'=>e= .returned (.string ⟨l.toArray⟩)/\Below B w w':=
 Tryz.Builder_String_any B b l w h hB
theorem Bld.below{w w':World}{B b:Nat}{l:List UInt8}(h:Bld w B b l)(hb:Below w.heap.size w w'):Bld w' B b l:=by
 have key:∀p,Lib.BuilderAt 243 5 B b p (Lib.byteCells l) w ->Lib.BuilderAt 243 5 B b p (Lib.byteCells l) w':=fun p hp=>by
  obtain⟨y,v,z,x,u⟩:=hp;refine⟨y,v,(hb.block b (qcb z)).trans z,x.kept ⟨hb.os,hb.tape,hb.output,hb.size,fun i hi _=>hb.block i hi⟩ (Classical.em (v.ownBlock=none)),u⟩
 exact h.imp (key _) (key _)
