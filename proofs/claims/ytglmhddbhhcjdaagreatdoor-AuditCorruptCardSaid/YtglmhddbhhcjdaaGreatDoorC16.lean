/- Laws that the walk of the last text wants. -/
import Derived.Deep.OwnShut
import Derived.Lib.EndianBits
import Derived.Test.YtglmhddbhhcjdaaGreatDoorC4
import Derived.Test.YtglmhddbhhcjdaaGreatDoorC6
set_option maxRecDepth 100000
set_option linter.unusedSimpArgs false
set_option maxHeartbeats 4000000
namespace Go.Proofs.YtglmhddbhhcjdaaGreatDoor
open Go.RowKit
def u8c (c:UInt8):Value:= .int .u8 (c.toNat:Int)
theorem Jy5:(Tryz.prog.info? 5).map (fun i=>(i.zero,i.size,i.bytes))=some (some (.int .u8 0),1,1):=by kernel_rfl
structure PkAt (w:World) (B g:Nat) (l:List UInt8):Prop where
 ex:∃v,Bx w g 281 #[(0:Int),v]/\w.ownsRow B 5 1 v l.length (l.map u8c)
 low:B<=g
abbrev PkSt (B g:Nat) (w w':World):Prop:=Jay B g 5 w w'
theorem PkAt.below{w w':World}{B g:Nat}{l:List UInt8}(h:PkAt w B g l)(hb:Below w.heap.size w w'):PkAt w' B g l:=by
 obtain⟨v,z,y⟩:=h.ex;exact⟨⟨v,z.below hb,Jaf y hb⟩,h.low⟩
theorem PkAt.new(w:World)(B:Nat)(hB:B<=w.heap.size):PkAt (w.alloc (.cells #[(0:Int),()] 281)) B w.heap.size []:=⟨⟨(),Bx.new _ _ _,qaz _ _ _ _⟩,hB⟩
theorem Jy6(v:Nat):(v:Int) % 256=((UInt8.ofNat v).toNat:Int):=by rw[Jtl];omega
theorem Jk7(B g size v:Nat)(l:List UInt8)(w:World)(h:PkAt w B g l)(hs:size<=60000)(hl:l.length<=1000000)(hB:B<=w.heap.size):
  Cs 259 #[g,.int .u64 (v:Int),(size:Int)] w fun e w'=>e= .returned (.tuple #[])/\PkAt w' B g (l++le size v)/\PkSt B g w w':=by
 obtain⟨i0,G,p,o,n⟩:=qb2 Jy5;have F:=zI G;have V:=zI p;have U:=zI o;have T:=zI n;have E:=zI h;clear G p o n h;go_enter Tryz.func259,Tryz.ntmps259;go_wp2;go_loopw [1,7] (fun x i wr=>∃k:Nat,k<=size/\i= .int .i64 (k:Int)/\x= .int .u64 ((v / 256 ^ k:Nat):Int)/\PkAt wr B g (l++le k v)/\PkSt B g w wr) (fun _ i _=>size - (intOf i).toNat)
 case atStart=>exact⟨0,qaq _,rfl,by simp,by simpa[le] using E.out,Jay.refl _ _ _ _⟩
 case round=>
  obtain⟨k,hk,rfl,rfl,Z,r⟩:=hrel;by_cases D:k<size
  · obtain⟨u,t,S⟩:=Z.ex
    obtain⟨vv,y⟩:=exE (v / 256 ^ k);have C:vv<=v:=by rw[y];exact Nat.div_le_self _ _
    have R:=zI (show le (k+1) v=le k v++[UInt8.ofNat vv] from by rw[y];exact le_succ k v);have P:=zI (show v / 256 ^ (k+1)=vv / 256 from by rw[y,Nat.div_div_eq_div_mul,Nat.pow_succ]);rw[<- y];clear y;have m:(l++le k v).length=l.length+k:=(by simp);obtain⟨L,Y⟩:=exE (l++le k v);obtain⟨N,W⟩:=exE L.length;rw[<- Y,<- W] at S;rw[<- Y,<- W] at m;have O:=zI Y;have A:=zI W;clear W Y;have b1:=t.at_ 1 rfl;have hJ:=t.free 1;have M:=zI (Sl.new wr 5 wr.heap.size [.int .u8 ((vv:Int) % 256)] #[.int .u8 ((vv:Int) % 256)] rfl rfl);have K:=zI (show ∀u∈[Value.int .u8 ((vv:Int) % 256)],u.oneCell'=true from fun u hu=>by rw[qa1.1 hu];rfl);have s:=(qaa wr.heap.size wr).alloc (qab _) (.cells #[.int .u8 ((vv:Int) % 256)] 5);have J:=zI s;have q:=zI (Jaf S s);have j:=zI (t.below s);have f:=zI r;have Ha:N<=1060000:=(by omega);have d:=zI Z.low;have I:=zI (Jy6 vv);clear Z t S r s m;have Hb:(wr.alloc (.cells #[.int .u8 ((vv:Int) % 256)] 5)).heap.size=wr.heap.size+1:=(by simp);have Hc:=f.out.size;go_wp2_with (at_builtin;refine Jap _ rfl _ _ 74 rfl B 5 i0 _ 1 1 Tryz.underlying74 F.out V.out U.out T.out rfl (by decide) u N (L.map u8c) rfl q.out (some ⟨wr.heap.size,0,none⟩) 1 1 [.int .u8 ((vv:Int) % 256)] rfl rfl M.out K.out ?c4 ?c5 ?c6 ?_;(unfold maxLen;omega);(omega);(omega);intro v2 w2 z c _;obtain⟨AV,cV,eV,_⟩:=Jao z;subst eV;have BX2:=zI (j.out.grown c (j.out.not_row q.out (by decide)));have y0:=BX2.out.at_ 1 rfl;have y1:=BX2.out.free 1)
    have bx3:=BX2.out.set 1 (.slice AV (N+1) cV);have b:PkSt B g w (w2.setCell ⟨g,1,none⟩ (.slice AV (N+1) cV)):=(f.out.trans (Jay.of_below J.out)).trans ((Jay.row c q.out).trans (Jay.set w2 1 (.slice AV (N+1) cV)));have a:=z.kept (Jam w2 g 1 (.slice AV (N+1) cV)) (.inr (fun e=>BX2.out.not_row z (by decide) e.symm));go_roundw
    case rel=>exact⟨k+1,by omega,by go_num,by rw[P.out];rfl,⟨⟨.slice AV (N+1) cV,bx3,by rw[I.out] at a;rw[R.out,<- qas,<- O.out,qbg,qad,<- A.out];exact a⟩,d.out⟩,b⟩
    case measure=>simp[intOf];omega
  · have H:size=k:=by omega
    subst H;go_wp2;go_end0
    exact⟨rfl,Z,r⟩
structure Jhg (w:World) (B g:Nat) (A:Option Addr):Prop where
 ok:∀a,A=some a ->a.block<w.heap.size/\a.block≠g/\(a.block<B\/∀cs fr,w.heap[a.block]? ≠some (.cells cs 5 fr))
theorem Jhg.sl{w w':World}{B g:Nat}{A:Option Addr}{xs:List Value}(h:Jhg w B g A)(hs:PkSt B g w w')(hx:Sl w A xs):Sl w' A xs:=by
 refine⟨fun hne=> ?_⟩;obtain⟨b,off,rfl,z,y⟩:=hx.at_ hne;obtain⟨x,v,t⟩:=h.ok _ rfl;have e:=hs.block b x v t;exact⟨b,off,rfl,qar z hs.size,fun j u hj=>(qbk (w:=w) e).trans (y j u hj)⟩
theorem Jhg.new{w:World}{B g:Nat}{T:TypeId}(cs:Array Value)(hT:T≠5)(hg:g<w.heap.size):Jhg (w.alloc (.cells cs T)) B g (some ⟨w.heap.size,0,none⟩):=by
 refine⟨fun a e=> ?_⟩;cases e
 refine⟨by simp,by show w.heap.size≠g;omega,.inr fun cs' fr e=> ?_⟩;rw[qci] at e;injection e with e;injection e with _ e;exact hT e
theorem PkAt.lt{w:World}{B g:Nat}{l:List UInt8}(h:PkAt w B g l):g<w.heap.size:=by obtain⟨v,z,_⟩:=h.ex;exact z.lt
theorem PkAt.e0{w:World}{B g:Nat}{l:List UInt8}(h:PkAt w B g l):w.cell? ⟨g,0,none⟩=some (.int .i64 0)/\w.frozen? ⟨g,0,none⟩=false:=by
 obtain⟨v,z,_⟩:=h.ex;exact⟨z.at_ 0 rfl,z.free 0⟩
theorem PkAt.set0{w:World}{B g:Nat}{l:List UInt8}(h:PkAt w B g l):PkAt (w.setCell ⟨g,0,none⟩ (0:Int)) B g l:=by
 obtain⟨v,z,y⟩:=h.ex;exact⟨⟨v,z.set 0 (0:Int),y.kept (Jam w g 0 _) (.inr (fun e=>z.not_row y (by decide) e.symm))⟩,h.low⟩
theorem Jk8(B g:Nat)(l:List UInt8)(w:World)(h:PkAt w B g l):
  Cs 224 #[g,(0:Int)] w fun e w'=>e= .returned false/\PkAt w' B g l/\PkSt B g w w':=by
 obtain⟨e0,e1⟩:=h.e0;have z:=h.set0;have e2:=z.e0.1;have y:PkSt B g w (w.setCell ⟨g,0,none⟩ (0:Int)):=Jay.set w 0 _;clear h;go_enter Tryz.func224,Tryz.ntmps224;go_wp2;go_ret;exact⟨rfl,z,y⟩
theorem Jh8(B g:Nat)(A:Option Addr)(n c:Nat)(vs:List Nat)(l:List UInt8)(w:World)(h:PkAt w B g l)(hA:Jhg w B g A)(hv:Sl w A (vs.map fun v:Nat=>Value.int .u64 (v:Int)))(hn:vs.length=n)(hl:l.length+8*n<=900000)(hB:B<=w.heap.size):
  Cs 260 #[g,.slice A n c] w fun e w'=>e= .returned (.tuple #[])/\PkAt w' B g (l++vs.flatMap (le 8))/\PkSt B g w w':=by
 obtain⟨e0,_⟩:=h.e0;have Y:=zI h;have W:=zI hv;have V:=zI hA;clear h hv hA;go_enter Tryz.func260,Tryz.ntmps260;go_wp2_with fail
 go_loopw [18] (fun i wr=>∃k:Nat,k<=n/\i= .int .i64 (k:Int)/\PkAt wr B g (l++(vs.take k).flatMap (le 8))/\PkSt B g w wr) (fun i _=>n - (intOf i).toNat)
 case atStart=>exact⟨0,qaq _,rfl,by simpa using Y.out,Jay.refl _ _ _ _⟩
 case round=>
  obtain⟨k,P,rfl,u,z⟩:=hrel;by_cases t:k<n
  · have K:k<vs.length:=by rw[hn];exact t
    obtain⟨b,off,rfl,_,U⟩:=(V.out.sl z W.out).get (j:=k) (by simpa using K);rw[qbq] at U
    have T:=zI (show(vs.take (k+1)).flatMap (le 8)=(vs.take k).flatMap (le 8)++le 8 vs[k] from by
     have e:vs.take (k+1)=vs.take k++[vs[k]]:=by rw[List.take_add_one,qah K];rfl
     rw[e,qav,qau,qbt,qbp])
    have y:((vs.take k).flatMap (le 8)).length=8*k:=by
     have S:∀m:List Nat,(m.flatMap (le 8)).length=8*m.length:=fun m=>by
      induction m with
      | nil=>rfl
      | cons a r ih=>rw[qau,qad,ih];simp;omega
     rw[S,qao];omega
    have s:=zI (show(l++(vs.take k).flatMap (le 8)).length<=1000000 from by rw[qad,y];omega);have R:=zI z.size;have q:=zI z;have p:=zI (Jk7 B g 8 vs[k] _ wr u (by omega) s.out (qax hB z.size));clear u z y;generalize vs[k]'K=x at*;go_wp2_with fail
    refine p.out.mono ?_;rintro e w2 ⟨rfl,o,f⟩;go_wp2_with fail
    go_roundw
    case rel=>exact⟨k+1,by omega,by go_num,by rw[T.out,<- qas];exact o,q.out.trans f⟩
    case measure=>simp[intOf];omega
  · have d:n=k:=by omega
    have Z:=zI (show vs.take k=vs from by rw[<- d,<- hn,qca]);rw[Z.out] at u;clear Z;go_wp2_with fail
    go_end0
    exact⟨rfl,u,z⟩
theorem J7p(n:Int):((u64 n:Nat):Int)=n % 18446744073709551616:=by unfold u64;omega
theorem Joa(B g:Nat)(A:Option Addr)(n c:Nat)(vs:List Int)(l:List UInt8)(w:World)(h:PkAt w B g l)(hA:Jhg w B g A)(hv:Sl w A (vs.map (Value.int .i64)))(hn:vs.length=n)(hl:l.length+8*n<=800000)(hB:B<=w.heap.size):
  Cs 176 #[(g:Nat),.slice A n c] w fun e w'=>e= .returned (.tuple #[])/\PkAt w' B g (l++vs.flatMap fun v=>le 8 (u64 v))/\PkSt B g w w':=by
 have T:=zI h;have S:=zI hv;have R:=zI hA;clear h hv hA;go_enter Tryz.func176,Tryz.ntmps176;go_wp2_with fail
 go_loopw [8] (fun i wr=>∃k:Nat,k<=n/\i= .int .i64 (k:Int)/\PkAt wr B g (l++(vs.take k).flatMap fun v=>le 8 (u64 v))/\PkSt B g w wr) (fun i _=>n - (intOf i).toNat)
 case atStart=>exact⟨0,qaq _,rfl,by simpa using T.out,Jay.refl _ _ _ _⟩
 case round=>
  obtain⟨k,M,rfl,u,z⟩:=hrel;by_cases o:k<n
  · have K:k<vs.length:=by rw[hn];exact o
    obtain⟨b,off,rfl,_,P⟩:=(R.out.sl z S.out).get (j:=k) (by simpa using K);rw[qbq] at P
    have O:=zI (show((vs.take (k+1)).flatMap fun v=>le 8 (u64 v))=((vs.take k).flatMap fun v=>le 8 (u64 v))++le 8 (u64 vs[k]) from by
     have e:vs.take (k+1)=vs.take k++[vs[k]]:=by rw[List.take_add_one,qah K];rfl
     rw[e,qav,qau,qbt,qbp])
    have t:((vs.take k).flatMap fun v=>le 8 (u64 v)).length=8*k:=by
     have N:∀m:List Int,(m.flatMap fun v=>le 8 (u64 v)).length=8*m.length:=fun m=>by
      induction m with
      | nil=>rfl
      | cons a r ih=>rw[qau,qad,ih];simp;omega
     rw[N,qao];omega
    have f:=zI (show(l++(vs.take k).flatMap fun v=>le 8 (u64 v)).length+8*1<=900000 from by rw[qad,t];omega);have d:=zI z;have y:=(qaa wr.heap.size wr).alloc (qab _) (.cells #[.int .u64 (vs[k] % 18446744073709551616)] 55);have Z:=zI y
    have s:=zI (show Sl (wr.alloc (.cells #[.int .u64 (vs[k] % 18446744073709551616)] 55)) (some ⟨wr.heap.size,0,none⟩) ([u64 vs[k]].map fun v:Nat=>Value.int .u64 (v:Int)) from by
     rw[qbz,List.map_nil,J7p];exact Sl.new wr 55 wr.heap.size [.int .u64 (vs[k] % 18446744073709551616)] #[.int .u64 (vs[k] % 18446744073709551616)] rfl rfl)
    have q:=zI (Jh8 B g _ 1 1 [u64 vs[k]] _ _ (u.below y) (Jhg.new _ (by decide) u.lt) s.out rfl f.out (qax hB (qax z.size y.size)));have p:=zI (show([u64 vs[k]].flatMap (le 8))=le 8 (u64 vs[k]) from by rw[qau,qbt,qbp]);rw[p.out] at q;clear u z t y s p;generalize vs[k]'K=x at*;go_wp2_with fail
    refine q.out.mono ?_;rintro e w2 ⟨rfl,Y,W⟩;go_wp2_with fail
    go_roundw
    case rel=>exact⟨k+1,by omega,by go_num,by rw[O.out,<- qas];exact Y,(d.out.trans (Jay.of_below Z.out)).trans W⟩
    case measure=>simp[intOf];omega
  · have V:n=k:=by omega
    have U:=zI (show vs.take k=vs from by rw[<- V,<- hn,qca]);rw[U.out] at u;clear U;go_wp2_with fail
    go_end0
    exact⟨rfl,u,z⟩
def Jc7 (size:Nat):Prop:=size=1\/size=2\/size=4
theorem Jc7.lt{size v:Nat}(h:Jc7 size)(hv:v<256 ^ size):v<4294967296:=by
 rcases h with rfl | rfl | rfl<;>simp at hv<;>omega
theorem Jsk(size v:Nat)(w:World)(hs:Jc7 size)(hv:v<256 ^ size):
  Cs 225 #[(size:Int),(v:Int)] w (RS w (0:Int)):=by
 have y:decide ((v:Int)<0)=false:=qae (by omega);rcases hs with rfl | rfl | rfl
 · simp at hv
   have z:((v:Int) / 256 !=0)=false:=by rw[show(v:Int) / 256=0 by omega];rfl
   go_enter Tryz.func225,Tryz.ntmps225;go_wp2;go_ret;exact⟨rfl,rfl⟩
 · simp at hv
   have z:((v:Int) / 65536 !=0)=false:=by rw[show(v:Int) / 65536=0 by omega];rfl
   go_enter Tryz.func225,Tryz.ntmps225;go_wp2;go_ret;exact⟨rfl,rfl⟩
 · simp at hv
   have z:((v:Int) / 4294967296 !=0)=false:=by rw[show(v:Int) / 4294967296=0 by omega];rfl
   go_enter Tryz.func225,Tryz.ntmps225;go_wp2;go_ret;exact⟨rfl,rfl⟩
theorem Jp7{α:Type}(f:α ->List UInt8){vs:List α}{k:Nat}(K:k<vs.length):(vs.take (k+1)).flatMap f=(vs.take k).flatMap f++f vs[k]:=by
 have e:vs.take (k+1)=vs.take k++[vs[k]]:=by rw[List.take_add_one,qah K];rfl
 rw[e,qav,qau,qbt,qbp]
theorem Je9{α:Type}(f:α ->List UInt8)(c:Nat)(h:∀a,(f a).length=c):∀m:List α,(m.flatMap f).length=c*m.length
 | []=>by simp
 | a::r=>by rw[qau,qad,Je9 f c h r,h,qa3,Nat.mul_add];omega
structure PkIn (w w':World) (B g:Nat) (l:List UInt8):Prop where
 at_:PkAt w' B g l
 st:PkSt B g w w'
theorem PkIn.drew{w w':World}{B g:Nat}{l:List UInt8}(h:PkIn w w' B g l):PkIn w w'.drew B g l:=⟨h.at_.below (qaa _ _).drew,h.st.trans (Jay.of_below (qaa _ _).drew)⟩
theorem PkIn.next{w w1 w':World}{B g:Nat}{l l':List UInt8}(h:PkIn w w1 B g l)(h2:PkAt w' B g l')(h3:PkSt B g w1 w'):PkIn w w' B g l':=⟨h2,h.st.trans h3⟩
theorem Jf2(B g size:Nat)(A:Option Addr)(n c:Nat)(vs:List Nat)(l:List UInt8)(w:World)(h:PkAt w B g l)(hs:Jc7 size)(hv:∀v∈vs,v<256 ^ size)(hA:Jhg w B g A)(hsl:Sl w A (vs.map fun v:Nat=>Value.int .i64 (v:Int)))(hn:vs.length=n)(hl:l.length+4*n<=900000)(hB:B<=w.heap.size):
  Cs 175 #[g,(size:Int),.slice A n c] w fun e w'=>e= .returned (.tuple #[])/\PkAt w' B g (l++vs.flatMap (le size))/\PkSt B g w w':=by
 have D:=zI hsl;have C:=zI hA;have f:=zI (fun W=>Jsk size 0 W hs (Nat.pow_pos (by decide)));have d:=zI (fun W hW=>Jk8 B g l W hW);have z:PkIn w w B g l:=⟨h,Jay.refl _ _ _ _⟩;have hJ:=zI z;have y:=z.drew;clear hsl hA h z;go_enter Tryz.func175,Tryz.ntmps175;go_upto_region 0 with fail
 go_region_held3 (fun w'=>PkIn w w' B g l)
  (first
    | assumption
    | exact y
    | exact PkIn.drew (by assumption))
  (first
    | (go_at_call 225;refine(f.out _).mono ?_;rintro e wf ⟨rfl,s⟩;subst s)
    | (go_at_call 224;refine(d.out _ (PkIn.at_ (by assumption))).mono ?_;rintro e wq ⟨rfl,r,q⟩;have u:=PkIn.next (by assumption) r q))
 have HQ:=zI u;have Ha:=u.st.size;clear u r q y;go_wp2_with fail
 go_loopw [20] (fun i wr=>∃k:Nat,k<=n/\i= .int .i64 (k:Int)/\PkIn w wr B g (l++(vs.take k).flatMap (le size))) (fun i _=>n - (intOf i).toNat)
 case atStart=>exact⟨0,qaq _,rfl,by simpa using HQ.out⟩
 case round=>
  obtain⟨k,hk,rfl,z⟩:=hrel;by_cases Z:k<n
  · have K:k<vs.length:=by rw[hn];exact Z
    obtain⟨b,off,rfl,_,hc⟩:=(C.out.sl z.st D.out).get (j:=k) (by simpa using K);rw[qbq] at hc;have HF:=zI (Jp7 (le size) K);have p:=Je9 (le size) size (fun a=>Ja2 size a) (vs.take k);have Y:size<=4:=by rcases hs with rfl | rfl | rfl<;>omega
    have V:size*(vs.take k).length<=4*n:=Nat.mul_le_mul Y (by rw[qao];omega);have o:=zI (show(l++(vs.take k).flatMap (le size)).length<=1000000 from by rw[qad,p];omega);have U:=zI (fun W=>Jsk size vs[k] W hs (hv _ (qan K)));have G:=hs.lt (hv _ (qan K));generalize vs[k]'K=x at*;obtain⟨L,T⟩:=exE (l++(vs.take k).flatMap (le size));rw[<- T] at z o;have S:=zI T;have R:=zI (fun W hW=>Jk8 B g L W hW);have P:=zI (fun W hW hB=>Jk7 B g size x L W hW (by omega) o.out hB);have Hb:=z.st.size;have y:=z.drew;clear T p V;go_upto_region 4 with fail
    go_region_held3 (fun w'=>PkIn w w' B g L)
     (first
       | assumption
       | exact y
       | exact PkIn.drew (by assumption))
     (first
       | (go_at_call 225;refine(U.out _).mono ?_;rintro e wf ⟨rfl,s⟩;subst s)
       | (go_at_call 224;refine(R.out _ (PkIn.at_ (by assumption))).mono ?_;rintro e wz ⟨rfl,O,N⟩;have t:=PkIn.next (by assumption) O N))
    have M:=t.st.size;have F:(x:Int) % 18446744073709551616=(x:Int):=(by omega);go_wp2_with fail
    refine(P.out _ t.at_ (qax hB M)).mono ?_;rintro e w2 ⟨rfl,J,I⟩;have m:=t.next J I;go_wp2_with fail
    go_roundw
    case rel=>exact⟨k+1,by omega,by go_num,by rw[HF.out,<- qas,<- S.out];exact m⟩
    case measure=>simp[intOf];omega
  · have H:n=k:=by omega
    have E:=zI (show vs.take k=vs from by rw[<- H,<- hn,qca]);rw[E.out] at z;clear E;go_wp2_with fail
    go_end0
    exact⟨rfl,z.at_,z.st⟩
def zeros (n:Nat):List UInt8:=List.replicate n 0
@[simp] theorem Jbr(n:Nat):(zeros n).length=n:=by simp[zeros]
theorem Jy7(k:Nat):le k 0=zeros k:=by
 induction k with
 | zero=>rfl
 | succ k ih=>rw[le,Nat.zero_div,ih];rfl
theorem Jp8(s:ByteArray):Lib.strCells s=s.toList.map u8c:=by rw[qaw];rfl
def strOf (l:List UInt8):ByteArray:=⟨l.toArray⟩
theorem J7q{w:World}{B n c:Nat}{A:Option Addr}{l:List UInt8}(h:w.ownsRow B 5 1 (.slice A n c) n (l.map u8c))(hn:l.length=n):
  (convert 74 9 (.slice A n c)).run Tryz.prog w= .ok (strOf l) w:=by
 subst hn;obtain⟨A',c',e,z⟩:=Jao h;cases e
 rcases A with _ | a
 · have y:l=[]:=by
    rcases l with _ | ⟨x,r⟩
    · rfl
    · obtain⟨b,off,e,_⟩:=z.at_ (by simp)
      cases e
   subst y;rw[run_convert_bytes_string w 74 9 5 none _ c Tryz.underlying74 Tryz.underlying5 Tryz.underlying9];simp[Conv.bytesToString,strOf];rfl
 · refine run_convert_bytes_back w 74 9 5 a c l Tryz.underlying74 Tryz.underlying5 Tryz.underlying9 (fun j hj=> ?_)
   exact J6f w z j _ (by rw[qb3,qah hj];rfl)
theorem Job(B g:Nat)(l:List UInt8)(w:World)(h:PkAt w B g l):
  Cs 177 #[g] w (RS w (.tuple #[strOf l,(0:Int)])):=by
 obtain⟨v,z,y⟩:=h.ex;obtain⟨A,c,rfl,_⟩:=Jao y;have e0:=z.at_ 0 (v:= (0:Int)) rfl;have e1:=z.at_ 1 (v:= .slice A l.length c) rfl;have x:=J7q y rfl;clear z y h;go_enter Tryz.func177,Tryz.ntmps177;go_wp2;go_ret2;exact⟨rfl,rfl⟩
theorem J4e(B g:Nat)(l:List UInt8)(w:World)(h:PkAt w B g l):
  Cs 331 #[g] w (RS w (l.length:Int)):=by
 obtain⟨v,z,y⟩:=h.ex;obtain⟨A,c,rfl,_⟩:=Jao y;have e1:=z.at_ 1 (v:= .slice A l.length c) rfl;clear z y h;go_enter Tryz.func331,Tryz.ntmps331;go_wp2;go_ret;exact⟨rfl,rfl⟩
theorem Juj(B g n:Nat)(l:List UInt8)(w:World)(h:PkAt w B g l)(hl:l.length<=n)(hn:n<=60000)(hB:B<=w.heap.size):
  Cs 325 #[g,(n:Int)] w fun e w'=>e= .returned (.tuple #[])/\PkAt w' B g (l++zeros (n - l.length))/\PkSt B g w w':=by
 obtain⟨v,u,j⟩:=h.ex;obtain⟨A,c,rfl,_⟩:=Jao j;have e1:=u.at_ 1 (v:= .slice A l.length c) rfl;have q:=zI (Jk8 B g l w h);have t:=zI (fun W hW hB=>Jk7 B g (n - l.length) 0 l W hW (by omega) (by omega) hB);rw[Jy7] at t;have f:decide ((n:Int)<(l.length:Int))=false:=qae (by omega);have d:decide ((n:Int)<0)=false:=qae (by omega);have b:decide ((60000:Int)<(n:Int))=false:=qae (by omega);clear u j;go_enter Tryz.func325,Tryz.ntmps325;go_wp2_with fail
 refine q.out.mono ?_;rintro e w2 ⟨rfl,y,x⟩;have p:=x.size;obtain⟨v2,z,s⟩:=y.ex;obtain⟨A2,c2,rfl,_⟩:=Jao s;have e2:=z.at_ 1 (v:= .slice A2 l.length c2) rfl;have i:((n:Int) - (l.length:Int))=((n - l.length:Nat):Int):=by omega
 have o:=zI x;have r:=zI (t.out w2 y (qax hB p));clear z s y x e1 h;go_upto_region 7 with fail
 go_wp2_with fail
 refine r.out.mono ?_;rintro e w3 ⟨rfl,m,k⟩;go_wp2_with fail
 go_end0
 exact⟨rfl,m,o.out.trans k⟩
def txB (s:List UInt8):List UInt8:=le 2 s.length++s
theorem J4f(B g:Nat)(s:ByteArray)(l:List UInt8)(w:World)(h:PkAt w B g l)(hl:l.length<=600000)(hs:s.size<=60000)(hB:B<=w.heap.size):
  Cs 330 #[g,s] w fun e w'=>e= .returned (.tuple #[])/\PkAt w' B g (l++txB s.toList)/\PkSt B g w w':=by
 obtain⟨i0,M,q,p,o⟩:=qb2 Jy5;have J:=zI M;have Z:=zI q;have Y:=zI p;have W:=zI o;clear M q p o;have V:=zI (Jk8 B g l w h);have n:s.toList.length=s.size:=by rw[qaw,Array.length_toList];rfl
 have K:(s.size:Int) % 18446744073709551616=(s.size:Int):=by omega
 clear h;go_enter Tryz.func330,Tryz.ntmps330;go_wp2_with fail
 refine V.out.mono ?_;rintro e w2 ⟨rfl,m,y⟩;have U:=zI y;have T:=y.size;have S:=zI (Jk7 B g 2 s.size l w2 m (by omega) (by omega) (qax hB T));clear m y;go_wp2_with fail
 refine S.out.mono ?_;rintro e w3 ⟨rfl,x,u⟩;have R:=zI (U.out.trans u);have I:=u.size;obtain⟨v,t,d⟩:=x.ex;have k:=zI x.low;obtain⟨L,b⟩:=exE (l++le 2 s.size);obtain⟨N,a⟩:=exE L.length;rw[<- b,<- a] at d;have H:N<=600002:=by rw[a,b,qad,Ja2];omega
 have G:=zI a;have P:=zI b;have b1:=t.at_ 1 (v:=v) rfl;have j:=zI t;have r:=zI d;obtain⟨A,c,rfl,_⟩:=Jao d;clear t d x u b a;go_wp2_with (at_builtin;refine Lib.wpList_append_own_string _ rfl _ _ 74 9 rfl B 5 i0 Tryz.underlying74 Tryz.underlying9 J.out Z.out Y.out W.out (.slice A N c) N (L.map u8c) rfl r.out s rfl ?c4 ?c5 ?c6 ?_;(unfold maxLen;omega);(omega);(omega);intro v2 w4 z i _;obtain⟨AV,cV,eV,_⟩:=Jao z;subst eV;have BX2:=zI (j.out.grown i (j.out.not_row r.out (by decide)));have y0:=BX2.out.at_ 1 rfl;have y1:=BX2.out.free 1)
 have bx3:=BX2.out.set 1 (.slice AV (N+s.size) cV);have f:PkSt B g w (w4.setCell ⟨g,1,none⟩ (.slice AV (N+s.size) cV)):=R.out.trans ((Jay.row i r.out).trans (Jay.set w4 1 _));have O:=z.kept (Jam w4 g 1 (.slice AV (N+s.size) cV)) (.inr (fun e=>BX2.out.not_row z (by decide) e.symm));go_wp2_with fail
 go_end0
 refine⟨rfl,⟨⟨.slice AV (N+s.size) cV,bx3,?_⟩,k.out⟩,f⟩;unfold txB;rw[n,<- qas,<- P.out,qad,<- G.out,qbg,n,<- Jp8];exact O
def nmB (s:List UInt8):List UInt8:=UInt8.ofNat s.length::(s++zeros (15 - s.length))
theorem Jf3{s:List UInt8}(h:s.length<=15):(nmB s).length=16:=by simp[nmB];omega
theorem J7r(l:List UInt8)(s:ByteArray):(l++[UInt8.ofNat s.size])++s.toList++le (15 - s.size) 0=l++nmB s.toList:=by
 have z:s.toList.length=s.size:=by rw[qaw,Array.length_toList];rfl
 unfold nmB;rw[z,Jy7]
 simp
theorem Jy8(B g:Nat)(A:Option Addr)(n c:Nat)(ss:List ByteArray)(l:List UInt8)(w:World)(h:PkAt w B g l)(hs:∀s∈ss,s.size<=15)(hA:Jhg w B g A)(hsl:Sl w A (ss.map Value.string))(hn:ss.length=n)(hl:l.length+16*n<=600000)(hB:B<=w.heap.size):
  Cs 298 #[(g:Nat),.slice A n c] w fun e w'=>e= .returned (.tuple #[])/\PkAt w' B g (l++ss.flatMap fun s=>nmB s.toList)/\PkSt B g w w':=by
 obtain⟨i0,hi,M,J,I⟩:=qb2 Jy5;have HI:=zI hi;have H:=zI M;have G:=zI J;have F:=zI I;have HW:=zI (show PkIn w w B g l from⟨h,Jay.refl _ _ _ _⟩);have HV:=zI hsl;have HA:=zI hA;clear hi M J I h hsl hA;go_enter Tryz.func298,Tryz.ntmps298;go_wp2_with fail
 go_loopw [9] (fun i wr=>∃k:Nat,k<=n/\i= .int .i64 (k:Int)/\PkIn w wr B g (l++(ss.take k).flatMap fun s=>nmB s.toList)) (fun i _=>n - (intOf i).toNat)
 case atStart=>exact⟨0,qaq _,rfl,by simpa using HW.out⟩
 case round=>
  obtain⟨k,hk,rfl,z⟩:=hrel;by_cases Hf:k<n
  · have K:k<ss.length:=by rw[hn];exact Hf
    obtain⟨b,off,rfl,_,hc⟩:=(HA.out.sl z.st HV.out).get (j:=k) (by simpa using K);rw[qbq] at hc;have HF:=zI (Jp7 (fun s:ByteArray=>nmB s.toList) K);have Ht:=hs _ (qan K)
    have E:∀m:List ByteArray,(∀s∈m,s.size<=15) ->(m.flatMap fun s=>nmB s.toList).length=16*m.length:=fun m=>by
     induction m with
     | nil=>intro _;rfl
     | cons a r ih=>
       intro hm;have ha:a.toList.length<=15:=by rw[qaw,Array.length_toList];exact hm a (by simp)
       rw[qau,qad,ih (fun s hs=>hm s (by simp[hs])),Jf3 ha,qa3];omega
    have D:(l++(ss.take k).flatMap fun s=>nmB s.toList).length<=600000:=by
     rw[qad,E _ (fun s hs'=>hs s (qbi hs')),qao];omega
    generalize ss[k]'K=x at*;obtain⟨L,hL⟩:=exE (l++(ss.take k).flatMap fun s=>nmB s.toList);rw[<- hL] at z D;have Hg:=zI hL;have Hh:=zI (Jk8 B g L wr z.at_);have Hu:=z.st.size;have Hi:=zI z;clear hL E z;go_wp2_with fail
    refine Hh.out.mono ?_;rintro e w1 ⟨rfl,V,U⟩;have C:=zI (Hi.out.st.trans U);have Hv:=U.size;obtain⟨v,T,hr⟩:=V.ex;have hJ:=zI V.low;obtain⟨N,hN⟩:=exE L.length;rw[<- hN] at hr;have Hw:N<=600000:=(by omega);have HN:=zI hN;obtain⟨AA,cc,rfl,_⟩:=Jao hr;have b1:=T.at_ 1 (v:= .slice AA N cc) rfl;have Hj:=zI (Sl.new w1 5 w1.heap.size [.int .u8 (x.size:Int)] #[.int .u8 (x.size:Int)] rfl rfl);have Hk:=zI (show ∀u∈[Value.int .u8 (x.size:Int)],u.oneCell'=true from fun u hu=>by rw[qa1.1 hu];rfl);have p:=(qaa w1.heap.size w1).alloc (qab _) (.cells #[.int .u8 (x.size:Int)] 5);have Hl:=zI p;have S:=zI (Jaf hr p);have Ha:=zI (T.below p);have Hm:=zI (show(x.size:Int)=((UInt8.ofNat x.size).toNat:Int) from by rw[<- Jy6];omega);have Hx:(w1.alloc (.cells #[.int .u8 (x.size:Int)] 5)).heap.size=w1.heap.size+1:=(by simp);clear V T hr U p hN D;go_upto_region 8 with(at_builtin;refine Jap _ rfl _ _ 74 rfl B 5 i0 _ 1 1 Tryz.underlying74 HI.out H.out G.out F.out rfl (by decide) (.slice AA N cc) N (L.map u8c) rfl S.out (some ⟨w1.heap.size,0,none⟩) 1 1 [.int .u8 (x.size:Int)] rfl rfl Hj.out Hk.out ?c4 ?c5 ?c6 ?_;(unfold maxLen;omega);(omega);(omega);intro v2 w2 y o _;obtain⟨AV,cV,eV,_⟩:=Jao y;subst eV;have BX2:=zI (Ha.out.grown o (Ha.out.not_row S.out (by decide)));have y0:=BX2.out.at_ 1 rfl;have y1:=BX2.out.free 1)
    have bx3:=BX2.out.set 1 (.slice AV (N+1) cV);have W:PkSt B g w (w2.setCell ⟨g,1,none⟩ (.slice AV (N+1) cV)):=(C.out.trans (Jay.of_below Hl.out)).trans ((Jay.row o S.out).trans (Jay.set w2 1 _));have Hb:=y.kept (Jam w2 g 1 (.slice AV (N+1) cV)) (.inr (fun e=>BX2.out.not_row y (by decide) e.symm));have Hy:=o.size;have f:=zI Hb;have d:=zI bx3;have Hc:=zI W;obtain⟨w3,R⟩:=exE (w2.setCell ⟨g,1,none⟩ (.slice AV (N+1) cV));rw[<- R] at f d Hc ⊢;have Hz:w2.heap.size=w3.heap.size:=by rw[R];exact(World.size_setCell w2 _ _).symm
    have c1:=d.out.at_ 1 (v:= .slice AV (N+1) cV) rfl;clear R bx3 W Hb y o BX2 y0 y1;go_upto_region 9 with(at_builtin;refine Lib.wpList_append_own_string _ rfl _ _ 74 9 rfl B 5 i0 Tryz.underlying74 Tryz.underlying9 HI.out H.out G.out F.out (.slice AV (N+1) cV) (N+1) (L.map u8c++[.int .u8 (x.size:Int)]) rfl f.out x rfl ?d4 ?d5 ?d6 ?_;(unfold maxLen;omega);(omega);(omega);intro v4 w4 t Z _;obtain⟨AY,cY,eY,_⟩:=Jao t;subst eY;have BX4:=zI (d.out.grown Z (d.out.not_row f.out (by decide)));have y0:=BX4.out.at_ 1 rfl;have y1:=BX4.out.free 1)
    have bx5:=BX4.out.set 1 (.slice AY (N+1+x.size) cY);have q:PkSt B g w (w4.setCell ⟨g,1,none⟩ (.slice AY (N+1+x.size) cY)):=Hc.out.trans ((Jay.row Z f.out).trans (Jay.set w4 1 _));have Y:=t.kept (Jam w4 g 1 (.slice AY (N+1+x.size) cY)) (.inr (fun e=>BX4.out.not_row t (by decide) e.symm));have H0:=Z.size;obtain⟨w5,P⟩:=exE (w4.setCell ⟨g,1,none⟩ (.slice AY (N+1+x.size) cY));rw[<- P] at bx5 q Y ⊢;have O:x.toList.length=x.size:=by rw[qaw,Array.length_toList];rfl
    have Hd:PkAt w5 B g (L++[UInt8.ofNat x.size]++x.toList):=by
     refine⟨⟨_,bx5,?_⟩,hJ.out⟩;rw[qad,qad,O,<- HN.out,qbg,qbg,<- Jp8];rw[Hm.out] at Y;exact Y
    have Hr:w4.heap.size=w5.heap.size:=by rw[P];exact(World.size_setCell w4 _ _).symm
    have Hs:(15:Int) - (x.size:Int)=((15 - x.size:Nat):Int):=(by omega);have He:=zI (Jk7 B g (15 - x.size) 0 _ w5 Hd (by omega) (by rw[qad,qad,O,<- HN.out];simp;omega) (by omega));rw[J7r] at He;have Hn:=zI q;clear P bx5 Y Hd t Z BX4 y0 y1 O q;go_wp2_with fail
    refine He.out.mono ?_;rintro e w6 ⟨rfl,Ho,Hp⟩;go_wp2_with fail
    go_roundw
    case rel=>exact⟨k+1,by omega,by go_num,by rw[HF.out,<- qas,<- Hg.out];exact⟨Ho,Hn.out.trans Hp⟩⟩
    case measure=>simp[intOf];omega
  · have Hq:n=k:=by omega
    have HT:=zI (show ss.take k=ss from by rw[<- Hq,<- hn,qca]);rw[HT.out] at z;clear HT;go_wp2_with fail
    go_end0
    exact⟨rfl,z.at_,z.st⟩
theorem Jy9(l:List UInt8)(w:World):∃c w1,(convert 9 74 (strOf l)).run Tryz.prog w= .ok (.slice (some ⟨w.heap.size,0,none⟩) l.length c) w1/\Below w.heap.size w w1/\w1.heap.size=w.heap.size+1/\
  ∀j (hj:j<l.length),w1.cell? ⟨w.heap.size,j,none⟩=some (.int .u8 (l[j].toNat:Int)):=by
 refine⟨_,_,run_bytes_of_string w 9 74 5 (strOf l) Tryz.underlying9 Tryz.underlying74 Tryz.underlying5,(qaa _ _).drew.alloc (qab _) _,by simp,fun j hj=> ?_⟩;have z:=World.cell?_alloc_mark w.drew (bytesRow (strOf l) (grownCap w (strOf l).size 0 5)) 5 ((bytesRow (strOf l) (grownCap w (strOf l).size 0 5)).size,(bytesRow (strOf l) (grownCap w (strOf l).size 0 5)).size+1) j;exact z.trans (bytesRow_at (strOf l) _ j (by simpa[strOf] using hj))
theorem Jza{l:List UInt8}{k:Nat}(h:k<l.length)(hk:k<=7){x:UInt8}(hx:l[k]=x):bits BinOp.or IntKind.u64 (leN (l.take k):Int) (IntKind.u64.wrap (IntKind.u64.wrap (x.toNat:Int)*2 ^ (8*k)))=(leN (l.take (k+1)):Int):=by
 have z:=x.toNat_lt;have e1:l.take (k+1)=l.take k++[x]:=by rw[List.take_add_one,qah h,hx];rfl
 have y:(l.take k).length=k:=by rw[qao];omega
 have t:=Jo3 (l.take k);rw[y,Jrw] at t
 have s:(2:Nat) ^ (8*k)*256<=2 ^ 64:=by
  rw[show(256:Nat)=2 ^ 8 from rfl,<- Nat.pow_add];exact qcn (by decide) (by omega)
 have w:x.toNat*2 ^ (8*k)<2 ^ 64:=by
  have v:x.toNat*2 ^ (8*k)<256*2 ^ (8*k):=Nat.mul_lt_mul_of_pos_right z (Nat.pow_pos (by decide));omega
 have e2:((x.toNat:Int)*2 ^ (8*k))=((x.toNat*2 ^ (8*k):Nat):Int):=by push_cast;rfl
 rw[wraps_u64 (x.toNat:Int) (by omega) (by omega),e2,wraps_u64 _ (by omega) (by exact_mod_cast w),(bits_nat .u64 64 (by decide) (fun n h0 v=>wraps_u64 n h0 v) _ _ (by omega) w).2,e1];have u:=J9e (l.take k) x;rw[y] at u;rw[u]
theorem Joc(l:List UInt8)(w:World)(hl:l.length<=8):
  Cs 226 #[strOf l] w (RB w (.int .u64 (leN l:Int))):=by
 obtain⟨c,w1,r,t,q,z⟩:=Jy9 l w;have p:=zI t;have v:=zI z;clear t z;go_enter Tryz.func226,Tryz.ntmps226;go_wp2_with fail
 go_loopw [3,9] (fun x i wr=>∃k:Nat,k<=l.length/\i= .int .i64 (k:Int)/\x= .int .u64 (leN (l.take k):Int)/\wr=w1) (fun _ i _=>l.length - (intOf i).toNat)
 case atStart=>exact⟨0,qaq _,rfl,by simp[leN],rfl⟩
 case round=>
  obtain⟨k,n,rfl,rfl,rfl⟩:=hrel;by_cases y:k<l.length
  · have m:=v.out k y
    have o:=zI (Jza y (by omega) rfl);generalize l[k]=x at*;go_wp2_with fail
    go_roundw
    case rel=>exact⟨k+1,by omega,by go_num,by rw[o.out],trivial⟩
    case measure=>simp[intOf];omega
  · have u:l.length=k:=by omega
    have s:=zI (show l.take k=l from by rw[<- u,qca]);rw[s.out];clear s;go_wp2_with fail
    go_ret;exact⟨rfl,p.out⟩
structure UnAt (w:World) (g:Nat) (l:List UInt8):Prop where
 bx:Bx w g 330 #[(0:Int),strOf l]
theorem UnAt.below{w w':World}{g:Nat}{l:List UInt8}(h:UnAt w g l)(hb:Below w.heap.size w w'):UnAt w' g l:=⟨h.bx.below hb⟩
theorem Jaa(l:List UInt8):(strOf l).size=l.length:=by simp[strOf,ByteArray.size]
theorem Ja7{a b:ByteArray}(h:a.data.toList=b.data.toList):a=b:=by
 cases a;cases b
 simp at h;rw[h]
theorem Jdp(a r:List UInt8):(strOf (a++r)).extract 0 a.length=strOf a:=by
 apply Ja7;simp[strOf,qcq,List.extract]
theorem Ji1(a r:List UInt8):(strOf (a++r)).extract a.length (a.length+r.length)=strOf r:=by
 apply Ja7;simp[strOf,qcq,List.extract]
theorem Jgn{w w1 w':World}{row:Option Nat}(h:w.grownBy w1 row)(hb:Below w1.heap.size w1 w'):w.grownBy w' row:=
 ⟨hb.os.trans h.os,hb.tape.trans h.tape,hb.output.trans h.output,qax h.size hb.size,fun k hk hn=>(hb.block k (qar hk h.size)).trans (h.block k hk hn)⟩
theorem Jh9{w w1 w':World}{row:Option Nat}(h:w.grownBy w1 row)(k:w1.grownBy w' row):w.grownBy w' row:=
 ⟨k.os.trans h.os,k.tape.trans h.tape,k.output.trans h.output,qax h.size k.size,fun i hi hn=>(k.block i (qar hi h.size) hn).trans (h.block i hi hn)⟩
theorem Jf4(g:Nat)(a r:List UInt8)(w:World)(h:UnAt w g (a++r))(_hl:a.length+r.length<=1000000):
  Cs 227 #[g,(a.length:Int)] w fun e w'=>e= .returned (strOf a)/\UnAt w' g r/\w.grownBy w' (some g):=by
 have e0:=h.bx.at_ 0 (v:= (0:Int)) rfl;have e1:=h.bx.at_ 1 (v:= (strOf (a++r))) rfl;have e2:=h.bx.free 1;have z:=zI h.bx;have y:(strOf (a++r)).size=a.length+r.length:=by rw[Jaa,qad]
 clear h;go_enter Tryz.func227,Tryz.ntmps227;go_wp2_with fail
 go_ret;rw[Jdp,Ji1];exact⟨rfl,⟨z.out.set 1 (strOf r)⟩,Jam w g 1 _⟩
theorem Jia(g v:Nat)(r:List UInt8)(w:World)(h:UnAt w g (le 8 v++r))(hv:v<18446744073709551616)(hl:r.length<=900000):
  Cs 228 #[g] w fun e w'=>e= .returned (.int .u64 (v:Int))/\UnAt w' g r/\w.grownBy w' (some g):=by
 have z:=zI (Jf4 g (le 8 v) r w h (by rw[Ja2];omega));rw[Ja2] at z;have y:=zI (fun W=>Joc (le 8 v) W (by rw[Ja2];omega));rw[Jch (show v<256 ^ 8 from hv)] at y;clear h;go_enter Tryz.func228,Tryz.ntmps228;go_wp2_with fail
 refine z.out.mono ?_;rintro e w1 ⟨rfl,u,t⟩;go_wp2_with fail
 refine(y.out w1).mono ?_;rintro e w2 ⟨rfl,x⟩;go_wp2_with fail
 go_ret;exact⟨rfl,u.below x,Jgn t x⟩
theorem J4g(v:Nat)(h:v<18446744073709551616):wrap64 (v:Int)=i64 v:=by
 unfold i64 wrap64;split<;>omega
theorem Jk9(g:Nat)(n:Int)(r:List UInt8)(w:World)(h:UnAt w g (le 8 (u64 n)++r))(hn: -9223372036854775808<=n/\n<=9223372036854775807)(hl:r.length<=900000):
  Cs 141 #[g] w fun e w'=>e= .returned (n:Int)/\UnAt w' g r/\w.grownBy w' (some g):=by
 have z:=zI (Jia g (u64 n) r w h (J6c n) hl);have y:=zI (show wrap64 ((u64 n:Nat):Int)=n from by rw[J4g _ (J6c n),J6p hn]);clear h;generalize u64 n=v at*;go_enter Tryz.func141,Tryz.ntmps141;go_wp2_with fail
 refine z.out.mono ?_;rintro e w1 ⟨rfl,x,u⟩;go_wp2_with fail
 go_ret;exact⟨by rw[<- y.out];rfl,x,u⟩
theorem UnAt.e0{w:World}{g:Nat}{l:List UInt8}(h:UnAt w g l):w.cell? ⟨g,0,none⟩=some (.int .i64 0)/\w.frozen? ⟨g,0,none⟩=false:=⟨h.bx.at_ 0 rfl,h.bx.free 0⟩
theorem J4h(g:Nat)(l:List UInt8)(w:World)(h:UnAt w g l):
  Cs 224 #[g,(0:Int)] w fun e w'=>e= .returned false/\UnAt w' g l/\w.grownBy w' (some g):=by
 obtain⟨e0,e1⟩:=h.e0;have z:UnAt (w.setCell ⟨g,0,none⟩ (0:Int)) g l:=⟨h.bx.set 0 (0:Int)⟩;have e2:=z.e0.1;have y:w.grownBy (w.setCell ⟨g,0,none⟩ (0:Int)) (some g):=Jam w g 0 _;clear h;go_enter Tryz.func224,Tryz.ntmps224;go_wp2;go_ret;exact⟨rfl,z,y⟩
structure UnIn (w w':World) (g:Nat) (l:List UInt8):Prop where
 at_:UnAt w' g l
 st:w.grownBy w' (some g)
theorem UnIn.drew{w w':World}{g:Nat}{l:List UInt8}(h:UnIn w w' g l):UnIn w w'.drew g l:=⟨h.at_.below (qaa _ _).drew,Jgn h.st (qaa _ _).drew⟩
theorem UnIn.next{w w1 w':World}{g:Nat}{l l':List UInt8}(h:UnIn w w1 g l)(h2:UnAt w' g l')(h3:w1.grownBy w' (some g)):UnIn w w' g l':=⟨h2,Jh9 h.st h3⟩
theorem Jcy(g size v:Nat)(r:List UInt8)(w:World)(h:UnAt w g (le size v++r))(hs:Jc7 size)(hv:v<256 ^ size)(hl:r.length<=900000):
  Cs 140 #[g,(size:Int)] w fun e w'=>e= .returned (v:Int)/\UnAt w' g r/\w.grownBy w' (some g):=by
 have s:=zI (fun W=>Jsk size 0 W hs (Nat.pow_pos (by decide)));have q:=zI (fun W hW=>J4h g (le size v++r) W hW);have j:size<=4:=by rcases hs with rfl | rfl | rfl<;>omega
 have o:=zI (fun W hW=>Jf4 g (le size v) r W hW (by rw[Ja2];omega));rw[Ja2] at o;have n:=zI (fun W=>Joc (le size v) W (by rw[Ja2];omega));rw[Jch hv] at n;have m:=hs.lt hv;have l:=zI (show wrap64 (v:Int)=(v:Int) from by unfold wrap64;omega);have x:UnIn w w g (le size v++r):=⟨h,qcc _ _⟩;have z:=x.drew;clear h x;go_enter Tryz.func140,Tryz.ntmps140;go_upto_region 1 with fail
 go_region_held3 (fun w'=>UnIn w w' g (le size v++r))
  (first
    | assumption
    | exact z
    | exact UnIn.drew (by assumption))
  (first
    | (go_at_call 225;refine(s.out _).mono ?_;rintro e wf ⟨rfl,p⟩;subst p)
    | (go_at_call 224;refine(q.out _ (UnIn.at_ (by assumption))).mono ?_;rintro e wq ⟨rfl,u,t⟩;have y:=UnIn.next (by assumption) u t))
 have i:=zI y;clear z u t;go_wp2_with fail
 refine(o.out _ y.at_).mono ?_;rintro e w1 ⟨rfl,f,d⟩;go_wp2_with fail
 refine(n.out w1).mono ?_;rintro e w2 ⟨rfl,k⟩;go_wp2_with fail
 go_ret;exact⟨by first | rfl | (rw[<- l.out];rfl) | (show Ending.returned (Value.int .i64 (wrap64 _))=_;rw[l.out]),f.below k,Jgn (Jh9 i.out.st d) k⟩
theorem Jsl(g:Nat)(l:List UInt8)(w:World)(h:UnAt w g l):
  Cs 278 #[g] w (RS w (0:Int)):=by
 obtain⟨e0,_⟩:=h.e0;clear h;go_enter Tryz.func278,Tryz.ntmps278;go_wp2;go_ret;exact⟨rfl,rfl⟩
theorem Jzb(g:Nat)(l:List UInt8)(w:World)(h:UnAt w g l):
  Cs 231 #[g] w (RS w (l.length:Int)):=by
 have e1:=h.bx.at_ 1 (v:= (strOf l)) rfl;have z:=Jaa l;clear h;go_enter Tryz.func231,Tryz.ntmps231;go_wp2;go_ret;exact⟨rfl,rfl⟩
theorem Juk(g:Nat)(l:List UInt8)(w:World)(h:UnAt w g l)(hl:l.length<=900000):
  Cs 143 #[g] w fun e w'=>e= .returned (strOf l)/\UnAt w' g []/\w.grownBy w' (some g):=by
 have z:=zI (Jf4 g l [] w (by rw[qbp];exact h) (by simp;omega));have y:=zI (Jzb g l w h);clear h;go_enter Tryz.func143,Tryz.ntmps143;go_wp2_with fail
 refine y.out.mono ?_;rintro e w1 ⟨rfl,x⟩;subst x;go_wp2_with fail
 refine z.out.mono ?_;rintro e w2 ⟨rfl,v,u⟩;go_wp2_with fail
 go_ret;exact⟨rfl,v,u⟩
theorem wrap_i64(n:Int)(h: -9223372036854775808<=n/\n<=9223372036854775807):IntKind.i64.wrap n=n:=by
 simp[IntKind.wrap,IntKind.bits,IntKind.signed];split<;>omega
theorem Jp9(g:Nat)(s r:List UInt8)(w:World)(h:UnAt w g (txB s++r))(hs:s.length<=60000)(hl:r.length<=800000):
  Cs 277 #[g] w fun e w'=>e= .returned (strOf s)/\UnAt w' g r/\w.grownBy w' (some g):=by
 have p:=h.bx;have a:txB s++r=le 2 s.length++(s++r):=by unfold txB;rw[qas]
 rw[a] at h p;have o:(strOf (le 2 s.length++(s++r))).size=2+(s.length+r.length):=by rw[Jaa,qad,qad,Ja2]
 have J:(strOf (le 2 s.length++(s++r))).extract 0 2=strOf (le 2 s.length):=by
  have:=Jdp (le 2 s.length) (s++r)
  rwa [Ja2] at this
 have n:=zI (fun W hW=>Jcy g 2 s.length (s++r) W hW (.inr (.inl rfl)) (by omega) (by rw[qad];omega));have U:=zI (fun W hW=>Jf4 g s r W hW (by omega));have Z:=zI (fun W=>Joc (le 2 s.length) W (by rw[Ja2];omega));rw[Jch (show s.length<256 ^ 2 by omega)] at Z;have T:=zI (show wrap64 (s.length:Int)=(s.length:Int) from by unfold wrap64;omega);have e0:=p.at_ 0 (v:= (0:Int)) rfl;have R:=zI p;have P:=zI h;generalize strOf (le 2 s.length++(s++r))=S at*;have m:=zI (show ∀w',Below w.heap.size w w' ->w'.cell? ⟨g,1,none⟩=some (.string S) from fun w' hb=>(R.out.below hb).at_ 1 rfl);have z:=(qaa w.heap.size w).drew;have l:=And.intro z (m.out _ z);obtain⟨N,Y⟩:=exE (2+(s.length+r.length));rw[<- Y] at o;have O:decide ((N:Int)<2)=false:=qae (by omega);have k:=zI (show decide (IntKind.i64.wrap ((N:Int) - 2)<IntKind.i64.wrap (s.length:Int))=false from qae (by rw[wrap_i64 _ (by omega),wrap_i64 _ (by omega)];omega));have M:decide ((N:Int) - 2<(s.length:Int))=false:=qae (by omega);have V:=T.out;have L:2<=N:=by omega
 have K:(2:Int)<=(N:Int):=by omega
 clear h p a Y;go_enter Tryz.func277,Tryz.ntmps277;go_upto_region 3 with fail
 go_region_held3 (fun w'=>Below w.heap.size w w'/\w'.cell? ⟨g,1,none⟩=some (.string S))
  (first
    | assumption
    | exact l
    | (go_split_ands;exact And.intro (by assumption) (m.out _ (by assumption)))
    | (go_split_ands;exact And.intro (Below.trans (by assumption) (Below.mono y (Below.size (by assumption)))) (m.out _ (Below.trans (by assumption) (Below.mono y (Below.size (by assumption)))))))
  (first
    | (go_at_call 226;go_split_ands;refine(Z.out _).mono ?_;rintro e w7 ⟨rfl,y⟩))
 rw[k.out];go_split_ands;have x:Below w.heap.size w w7:=by assumption
 have j:=zI (P.out.below x);have u:=zI (n.out w7 j.out);have i:=zI x;go_wp2_with fail
 refine u.out.mono ?_;rintro e w8 ⟨rfl,t,q⟩;have f:=zI (U.out w8 t);have d:=zI q;clear t q;go_wp2_with fail
 refine f.out.mono ?_;rintro e w9 ⟨rfl,c,b⟩;go_wp2_with fail
 go_ret;exact⟨rfl,c,Jh9 (Jtt i.out (some g)) (Jh9 d.out b)⟩
theorem Jcv(s:ByteArray)(w:World)(hs:s.size<=1000000):Cs 82 #[s] w fun e w'=>e= .returned s/\Below w.heap.size w w':=by
 have H:=zI (Tryz.stringslite_Clone s w (by omega));go_enter Tryz.func82,Tryz.ntmps82;go_wp2_with fail
 refine H.out.mono ?_;rintro e w1 ⟨rfl,z⟩;go_wp2_with fail
 go_ret;exact⟨rfl,z⟩
theorem Jqa(l:List UInt8)(w:World)(hl:l.length<=900000):Cs 139 #[strOf l] w fun e w'=>∃g,e= .returned (g:Nat)/\w.heap.size<=g/\UnAt w' g l/\Below w.heap.size w w':=by
 have H:=zI (Jcv (strOf l) w (by rw[Jaa];omega));go_enter Tryz.func139,Tryz.ntmps139;go_wp2_with fail
 refine H.out.mono ?_;rintro e w1 ⟨rfl,z⟩;have y:=z.alloc z.size (.cells #[(0:Int),strOf l] 330);have v:=Bx.new w1 330 #[(0:Int),strOf l];have x:=z.size;go_wp2_with fail
 go_ret;exact⟨w1.heap.size,rfl,x,⟨v⟩,y⟩
theorem Jwf(k:Nat):Lib.trimB (strOf (zeros k)).data.toList 0=[]:=by
 have y:Lib.trimLeftB (zeros k) 0=[]:=by unfold Lib.trimLeftB zeros;simp
 have z:Lib.trimRightB (zeros k) 0=[]:=by unfold Lib.trimRightB zeros;simp
 show Lib.trimLeftB (Lib.trimRightB (zeros k) 0) 0=[];rw[z];rfl
theorem J7s(s:List UInt8)(hs:s.length<=15)(hp:0<(strOf (nmB s)).size):wrap64 (((strOf (nmB s))[0]'hp).toNat:Int)=(s.length:Int):=by
 have:(strOf (nmB s))[0]'hp=UInt8.ofNat s.length:=rfl;rw[this,Jtl];unfold wrap64;omega
theorem J7t(s:List UInt8):(strOf (nmB s)).extract 1 (1+s.length)=strOf s:=by
 apply Ja7;simp[strOf,nmB,qcq,List.extract]
theorem J7u(s:List UInt8)(hs:s.length<=15):(strOf (nmB s)).extract (1+s.length) 16=strOf (zeros (15 - s.length)):=by
 apply Ja7
 have h:(nmB s).drop (1+s.length)=zeros (15 - s.length):=by
  unfold nmB;rw[Nat.add_comm,List.drop_succ_cons,List.drop_left]
 simp[strOf,qcq,List.extract,h];simp[zeros];omega
theorem Jzc(g:Nat)(s r:List UInt8)(w:World)(h:UnAt w g (nmB s++r))(hs:s.length<=15)(hl:r.length<=800000):
  Cs 229 #[g] w fun e w'=>e= .returned (strOf s)/\UnAt w' g r/\w.grownBy w' (some g):=by
 have y:=zI (Jf4 g (nmB s) r w h (by rw[Jf3 hs];omega));rw[Jf3 hs] at y;have q:(strOf (nmB s)).size=16:=by rw[Jaa,Jf3 hs]
 have a:=J7s s hs;have p:=J7t s;have o:=J7u s hs;have z:=zI (fun W=>Tryz.strings_Trim_one (strOf (zeros (15 - s.length))) 0 (by decide) W (by rw[Jaa,Jbr];omega));rw[Jwf] at z;have m:(strOf (nmB s)).toList.isEmpty=false:=by rw[qaw];rfl
 generalize hn:s.length=n at*;generalize strOf (zeros (15 - n))=Z at*;generalize strOf s=R at*;have l:wrap64 (1+(n:Int))=1+(n:Int):=by unfold wrap64;omega
 have Y:decide ((15:Int)<(n:Int))=false:=qae (by omega);have k:(1+(n:Int)).toNat=1+n:=by omega
 have j:1+n<=16:=by omega
 have i:(0:Int)<=1+(n:Int):=by omega
 have f:1+(n:Int)<=16:=by omega
 have d:(1:Int)<=1+(n:Int):=by omega
 clear h;go_enter Tryz.func229,Tryz.ntmps229;go_wp2_with fail
 refine y.out.mono ?_;rintro e w1 ⟨rfl,x,v⟩;generalize strOf (nmB s)=S at*;have c:=zI x;have b:=zI v;clear x v y;go_wp2_with fail
 refine(z.out w1).mono ?_;rintro e w2 ⟨rfl,u⟩
 have t:Below w1.heap.size w1 w2:=by
  rcases u with rfl | rfl
  · exact qaa _ _
  · exact(qaa _ _).drew
 clear u;go_wp2_with fail
 go_ret;exact⟨rfl,c.out.below t,Jgn b.out t⟩
def Jul (x:Int):Int:=if bits BinOp.and IntKind.u32 x 1=1 then bits BinOp.xor IntKind.u32 (x / 2) 3945912366 else x / 2
def Jhh:Nat ->Int ->Int
 | 0,x=>x
 | n+1,x=>Jul (Jhh n x)
def Jod (x:Int) (c:UInt8):Int:=Jhh 8 (bits BinOp.xor IntKind.u32 x ((c.toNat:Int) % 4294967296))
def Jbo (x:Int) (l:List UInt8):Int:=l.foldl Jod x
def Jfn (l:List UInt8):Int:=bits BinOp.xor IntKind.u32 (Jbo (bits BinOp.xor IntKind.u32 0 4294967295) l) 4294967295
theorem Jqb(x:Int)(l:List UInt8)(c:UInt8):Jbo x (l++[c])=Jod (Jbo x l) c:=by simp[Jbo]
theorem Jwg(g:Nat)(A:Option Addr)(c:Nat)(l:List UInt8)(w:World)(h:Bx w g 460 #[.int .u32 0])(hA:Sl w A [strOf l])(hl:l.length<=1000000):
  Cs 381 #[g,.slice A 1 c] w fun e w'=>e= .returned (.tuple #[])/\Bx w' g 460 #[.int .u32 (Jfn l)]/\w.grownBy w' (some g):=by
 have e0:=h.at_ 0 (v:= .int .u32 0) rfl;have e1:=h.free 0;have V:=zI h;obtain⟨b,off,rfl,_,a⟩:=hA.get (j:=0) (by simp);have U:w.cell? ⟨b,off,none⟩=some (.string (strOf l)):=by simpa using a
 have T:=Jaa l;obtain⟨x0,s⟩:=exE (bits BinOp.xor IntKind.u32 0 4294967295);have q:=zI s;have Z:=s.symm;clear h hA a s;go_enter Tryz.func381,Tryz.ntmps381;go_wp2_with fail
 go_loopw [4,18] (fun x i wr=>wr=w/\(i= .int .i64 0/\x= .int .u32 x0\/i= .int .i64 1/\x= .int .u32 (Jbo x0 l))) (fun _ i _=>1 - (intOf i).toNat)
 case atStart=>first | exact⟨rfl,.inl ⟨rfl,rfl⟩⟩ | exact⟨rfl,.inl ⟨rfl,by rw[q.out];rfl⟩⟩
 case round =>
  obtain⟨rfl,⟨rfl,rfl⟩ | ⟨rfl,rfl⟩⟩:=hrel
  · go_wp2_with fail
    go_loopw [4,24] (fun x i wr2=>wr2=wr/\∃k:Nat,k<=l.length/\i= .int .i64 (k:Int)/\x= .int .u32 (Jbo x0 (l.take k))) (fun _ i _=>l.length - (intOf i).toNat)
    case atStart=>exact⟨rfl,0,qaq _,rfl,rfl⟩
    case round=>
     obtain⟨rfl,k,M,rfl,rfl⟩:=hrel;by_cases p:k<l.length
     · have S:=zI (show Jbo x0 (l.take (k+1))=Jod (Jbo x0 (l.take k)) l[k] from by
        have e:l.take (k+1)=l.take k++[l[k]]:=by rw[List.take_add_one,qah p];rfl
        rw[e,Jqb])
       have o:k<(strOf l).size:=by rw[Jaa];exact p
       have R:(strOf l)[k]'o=l[k]:=rfl;generalize Jbo x0 (l.take k)=y at*;generalize l[k]=cb at*;go_wp2_with fail
       obtain⟨y0,r⟩:=exE (bits BinOp.xor IntKind.u32 y ((cb.toNat:Int) % 4294967296));have n:=zI (show Jod y cb=Jhh 8 y0 from by rw[r];rfl);rw[<- r];clear r;go_loopw [4,33] (fun x i wr3=>wr3=wr/\∃t:Nat,t<=8/\i= .int .i64 (t:Int)/\x= .int .u32 (Jhh t y0)) (fun _ i _=>8 - (intOf i).toNat)
       case atStart=>exact⟨rfl,0,by omega,rfl,rfl⟩
       case round=>
        obtain⟨rfl,t,L,rfl,rfl⟩:=hrel;by_cases P:t<8
        · have Y:=zI (show Jhh (t+1) y0=Jul (Jhh t y0) from rfl)
          generalize Jhh t y0=z at*;by_cases u:bits BinOp.and IntKind.u32 z 1=1
          · have m:=zI (show Jul z=bits BinOp.xor IntKind.u32 (z / 2) 3945912366 from qa0 u)
            go_wp2_with fail
            go_roundw
            case rel=>exact⟨by trivial,t+1,by omega,by go_num,by rw[Y.out,m.out]⟩
            case measure=>simp[intOf];omega
          · have m:=zI (show Jul z=z / 2 from qay u)
            go_wp2_with fail
            go_roundw
            case rel=>exact⟨by trivial,t+1,by omega,by go_num,by rw[Y.out,m.out]⟩
            case measure=>simp[intOf];omega
        · have f:t=8:=by omega
          subst f;rw[<- n.out,<- S.out];go_wp2_with fail
          go_roundw
          case rel=>exact⟨by trivial,k+1,by omega,by go_num,rfl⟩
          case measure=>simp[intOf];omega
     · have d:l.length=k:=by omega
       have W:=zI (show l.take k=l from by rw[<- d,qca]);rw[W.out];clear W;go_wp2_with fail
       go_roundw
       case rel=>exact⟨by trivial,.inr ⟨rfl,rfl⟩⟩
       case measure=>simp[intOf]
  · have O:=zI (show Jfn l=bits BinOp.xor IntKind.u32 (Jbo x0 l) 4294967295 from by rw[q.out];rfl)
    generalize Jbo x0 l=y at*;have bx:=V.out.set 0 (.int .u32 (bits BinOp.xor IntKind.u32 y 4294967295));have N:=Jam wr g 0 (.int .u32 (bits BinOp.xor IntKind.u32 y 4294967295));go_wp2_with fail
    go_end0
    rw[O.out];exact⟨rfl,bx,N⟩
theorem J4i(op:BinOp)(a b:Int):0<=bits op IntKind.u32 a b/\bits op IntKind.u32 a b<4294967296:=by
 obtain⟨n,h⟩:∃n,bits op IntKind.u32 a b=IntKind.u32.wrap n:=⟨_,rfl⟩;rw[h,IntKind.wrap_u32];omega
theorem J6m(l:List UInt8):0<=Jfn l/\Jfn l<4294967296:=J4i _ _ _
def crcB (l:List UInt8):List UInt8:=le 4 (Jfn l).toNat
@[simp] theorem Kae(l:List UInt8):(crcB l).length=4:=Ja2 _ _
theorem Jwh(g:Nat)(x:Int)(w:World)(h:Bx w g 460 #[.int .u32 x]):
  Cs 382 #[g] w (RS w (.int .u32 x)):=by
 have e0:=h.at_ 0 (v:= .int .u32 x) rfl;clear h;go_enter Tryz.func382,Tryz.ntmps382;go_wp2_with fail
 go_ret;exact⟨rfl,rfl⟩
theorem Jqc(A:Option Addr)(c:Nat)(l:List UInt8)(w:World)(hA:Sl w A [strOf l])(hl:l.length<=1000000):
  Cs 324 #[.slice A 1 c] w (RB w (.int .u32 (Jfn l))):=by
 have z:=(qaa w.heap.size w).alloc (qab _) (.cells #[.int .u32 0] 460);have y:=zI z;have x:=zI (Jwg w.heap.size A c l _ (Bx.new w 460 #[.int .u32 0]) (hA.below z) hl);clear hA z;go_enter Tryz.func324,Tryz.ntmps324;go_wp2_with fail
 refine x.out.mono ?_;rintro e w1 ⟨rfl,v,u⟩;have t:=zI (Jwh _ _ w1 v);have s:=zI u;clear v u;go_wp2_with fail
 refine t.out.mono ?_;rintro e w2 ⟨rfl,r⟩;subst r;go_wp2_with fail
 go_ret;exact⟨rfl,y.out.grown s.out y.out.size (fun k e=>by cases e;exact qab _)⟩
theorem Jum(x:Nat)(w:World)(hx:x<4294967296):
  Cs 323 #[.int .u32 (x:Int)] w (RB w (strOf (le 4 x))):=by
 have z:=(qaa w.heap.size w).alloc (qab _) (.cells #[(0:Int),()] 281);have P0:=PkAt.new w w.heap.size (qab _);obtain⟨w1,y⟩:=exE (w.alloc (.cells #[(0:Int),()] 281));have r:w1.heap.size=w.heap.size+1:=by rw[y];simp
 have q:=zI y;rw[<- y] at z P0;have u:=(qaa w1.heap.size w1).alloc (qab _) (.cells #[(x:Int)] 3);have t:=zI (Jf2 w.heap.size w.heap.size 4 (some ⟨w1.heap.size,0,none⟩) 1 1 [x] [] (w1.alloc (.cells #[(x:Int)] 3)) (P0.below u) (.inr (.inr rfl)) (fun v hv=>by rw[qa1.1 hv];exact hx) (Jhg.new _ (by decide) (by omega)) (Sl.new w1 3 w1.heap.size [(x:Int)] #[(x:Int)] rfl rfl) rfl (by simp) (qax z.size u.size));have p:=zI (z.trans (u.mono z.size));have k:wrap64 (x:Int)=(x:Int):=by unfold wrap64;omega
 clear P0 z u y;go_enter Tryz.func323,Tryz.ntmps323;go_wp2_with fail
 rw[<- q.out,<- r];refine t.out.mono ?_;rintro e w2 ⟨rfl,m,s⟩;have l:=zI (Job _ _ _ w2 m);have o:=zI (s.below (B':=w.heap.size) (qab _) (qab _) (by simp;omega));have n:=zI (show[]++[x].flatMap (le 4)=le 4 x from by simp);rw[n.out] at l;clear m s t;go_wp2_with fail
 refine l.out.mono ?_;rintro e w3 ⟨rfl,j⟩;subst j;go_wp2_with fail
 go_ret;exact⟨rfl,p.out.trans o.out⟩
theorem Jwi(l:List UInt8)(w:World)(hl:l.length<=1000000):
  Cs 326 #[strOf l] w (RB w (strOf (l++crcB l))):=by
 have y:=(qaa w.heap.size w).alloc (qab _) (.cells #[strOf l] 9);have x:=zI y;have u:=zI (Jqc (some ⟨w.heap.size,0,none⟩) 1 l _ (Sl.new w 9 w.heap.size [strOf l] #[strOf l] rfl rfl) hl);have t:=J6m l;have p:=zI (show Jfn l=((Jfn l).toNat:Int) from by omega);have q:=zI (fun W=>Jum (Jfn l).toNat W (by omega));rw[<- p.out] at q;have o:(strOf l).size+(strOf (le 4 (Jfn l).toNat)).size<=9223372036854775807:=by rw[Jaa,Jaa,Ja2];omega
 have s:=zI (show strOf l++strOf (le 4 (Jfn l).toNat)=strOf (l++crcB l) from by apply Ja7;simp[strOf,crcB]);clear y t;go_enter Tryz.func326,Tryz.ntmps326;go_wp2_with fail
 refine u.out.mono ?_;rintro e w2 ⟨rfl,z⟩;go_wp2_with fail
 refine(q.out w2).mono ?_;rintro e w3 ⟨rfl,v⟩;have r:=zI (x.out.trans ((z.trans (v.mono z.size)).mono x.out.size));clear z v;go_wp2_with fail
 go_ret;exact⟨by rw[<- s.out];rfl,r.out⟩
noncomputable def Jzd (l t:List UInt8):Value:=if t=crcB l then .tuple #[strOf l,(0:Int)] else .tuple #[ByteArray.empty,(7:Int)]
theorem Jdq(l:List UInt8):(strOf l).toList=l:=by rw[qaw];rfl
theorem Jqd(l t:List UInt8)(w:World)(ht:t.length=4)(hl:l.length<=900000):
  Cs 275 #[(strOf (l++t))] w (RB w (Jzd l t)):=by
 have p:(strOf (l++t)).size=l.length+4:=by rw[Jaa,qad,ht]
 have z:(strOf (l++t)).extract 0 l.length=strOf l:=Jdp l t;have v:(strOf (l++t)).extract l.length (l.length+4)=strOf t:=by rw[<- ht];exact Ji1 l t
 have o:=J6m l;have d:=zI (show Jfn l=((Jfn l).toNat:Int) from by omega);have c:=zI (fun W=>Jum (Jfn l).toNat W (by omega));rw[<- d.out] at c;have m:=zI (fun W A hA=>Jqc A 1 l W hA (by omega));have k:=zI (fun W=>Jcv (strOf l) W (by rw[Jaa];omega));generalize strOf (l++t)=S at*;obtain⟨n,b⟩:=exE l.length;rw[<- b] at p z v hl;have a:((n:Int)+4 - 4)=(n:Int):=by omega
 have V:decide ((n:Int)<0)=false:=qae (by omega);have Z:n<=n+4:=by omega
 have Y:(n:Int)<=(n:Int)+4:=by omega
 have j:=(qaa w.heap.size w).drew;have u:=zI ((Sl.new w 9 w.heap.size [strOf l] #[strOf l] rfl rfl).below (qaa _ _).drew);have i:=zI z;clear b o d;go_enter Tryz.func275,Tryz.ntmps275;go_upto_region 4 with fail
 go_region_held3 (fun w'=>Below w.heap.size w w')
  (first
    | assumption
    | exact j
    | exact Below.drew (by assumption)
    | exact qc8 (by assumption) (Below.size (by assumption)) _
    | exact Below.trans (by assumption) (Below.mono s (Below.size (by assumption)))
    | exact Below.trans (by assumption) (Below.mono r (Below.size (by assumption))))
  (first
    | (go_at_call 324;refine(m.out _ _ u.out).mono ?_;rintro e w7 ⟨rfl,s⟩)
    | (go_at_call 323;refine(c.out _).mono ?_;rintro e w8 ⟨rfl,r⟩))
 have y:Below w.heap.size w w8:=by assumption
 have x:=zI y;have q:=zI (k.out w8);clear y s r z v;by_cases e:t=crcB l
 · have g:=zI (show((strOf t).toList==(strOf (le 4 (Jfn l).toNat)).toList)=true from by rw[e];exact beq_self_eq_true _)
   have f:=zI (show Jzd l t= .tuple #[strOf l,(0:Int)] from qa0 e);have z:S.extract 0 n=strOf l:=i.out;rw[g.out];go_wp2_with fail
   refine q.out.mono ?_;rintro e w9 ⟨rfl,y⟩;go_wp2_with fail
   go_ret2;exact⟨by rw[f.out];rfl,x.out.trans (y.mono x.out.size)⟩
 · have g:=zI (show((strOf t).toList==(strOf (le 4 (Jfn l).toNat)).toList)=false from by
    rw[qat];intro h;exact e (by rw[Jdq,Jdq] at h;exact h))
   have f:=zI (show Jzd l t= .tuple #[ByteArray.empty,(7:Int)] from qay e);rw[g.out];go_wp2_with fail
   go_ret2;exact⟨by rw[f.out];rfl,x.out⟩
structure LayW (w0 w:World) (g:Nat) (l:List UInt8):Prop where
 at_:PkAt w w0.heap.size g l
 below:Below w0.heap.size w0 w
section
variable {w0 w w':World} {g:Nat} {l l':List UInt8}
theorem LayW.new(w0:World):LayW w0 (w0.alloc (.cells #[(0:Int),()] 281)) w0.heap.size []:=⟨PkAt.new w0 _ (qab _),(qaa _ _).alloc (qab _) _⟩
theorem LayW.then_below(h:LayW w0 w g l)(hb:Below w.heap.size w w'):LayW w0 w' g l:=⟨h.at_.below hb,h.below.trans (hb.mono h.below.size)⟩
theorem LayW.lt(h:LayW w0 w g l):g<w.heap.size:=h.at_.lt
theorem LayW.size(h:LayW w0 w g l):w0.heap.size<=w.heap.size:=h.below.size
theorem LayW.bx{b:Nat}{T:TypeId}{cs:Array Value}(h:LayW w0 w g l)(hx:Bx w0 b T cs):Bx w b T cs:=hx.below h.below
theorem LayW.sl{A:Option Addr}{xs:List Value}(h:LayW w0 w g l)(hx:Sl w0 A xs):Sl w A xs:=hx.below h.below
theorem LayW.st{w1:World}(h:LayW w0 w g l)(hb:Below w.heap.size w w1)(hp:PkAt w' w0.heap.size g l')(hs:PkSt w0.heap.size g w1 w'):LayW w0 w' g l':=
 ⟨hp,(h.below.trans (hb.mono h.below.size)).trans (hs.below (qab _) h.at_.low (qax h.below.size hb.size))⟩
theorem LayW.arg(h:LayW w0 w g l)(T:TypeId)(cs:Array Value)(hT:T≠5):Jhg (w.alloc (.cells cs T)) w0.heap.size g (some ⟨w.heap.size,0,none⟩):=Jhg.new cs hT h.lt
theorem LayW.old{A:Option Addr}{xs:List Value}(h:LayW w0 w g l)(hx:Sl w0 A xs)(hne:xs≠[]):Jhg w w0.heap.size g A:=by
 obtain⟨b,off,rfl,z,_⟩:=hx.at_ hne;refine⟨fun a e=> ?_⟩;cases e
 have:=h.below.size;have:=h.at_.low;exact⟨by show b<_;omega,by show b≠g;omega,.inl z⟩
theorem LayW.words(h:LayW w0 w g l)(vs:List Nat)(n c:Nat)(cs:Array Value)(hcs:cs.toList=vs.map fun v:Nat=>Value.int .u64 (v:Int))(hn:vs.length=n)(hl:l.length+8*n<=900000):
  Cs 260 #[g,.slice (some ⟨w.heap.size,0,none⟩) n c] (w.alloc (.cells cs 55)) fun e w'=>e= .returned (.tuple #[])/\LayW w0 w' g (l++vs.flatMap (le 8)):=by
 have z:=(qaa w.heap.size w).alloc (qab _) (.cells cs 55);refine(Jh8 w0.heap.size g _ n c vs l _ (h.at_.below z) (h.arg _ cs (by decide)) (Sl.new w _ _ _ cs rfl hcs) hn hl (qax h.size z.size)).mono ?_;rintro e w' ⟨rfl,y,x⟩;exact⟨rfl,h.st z y x⟩
theorem LayW.ints(h:LayW w0 w g l)(vs:List Int)(n c:Nat)(cs:Array Value)(hcs:cs.toList=vs.map (Value.int .i64))(hn:vs.length=n)(hl:l.length+8*n<=800000):
  Cs 176 #[(g:Nat),.slice (some ⟨w.heap.size,0,none⟩) n c] (w.alloc (.cells cs 3)) fun e w'=>e= .returned (.tuple #[])/\LayW w0 w' g (l++vs.flatMap fun v=>le 8 (u64 v)):=by
 have z:=(qaa w.heap.size w).alloc (qab _) (.cells cs 3);refine(Joa w0.heap.size g _ n c vs l _ (h.at_.below z) (h.arg _ cs (by decide)) (Sl.new w _ _ _ cs rfl hcs) hn hl (qax h.size z.size)).mono ?_;rintro e w' ⟨rfl,y,x⟩;exact⟨rfl,h.st z y x⟩
theorem LayW.small(h:LayW w0 w g l)(size:Nat)(hz:Jc7 size)(vs:List Nat)(hv:∀v∈vs,v<256 ^ size)(n c:Nat)(cs:Array Value)(hcs:cs.toList=vs.map fun v:Nat=>Value.int .i64 (v:Int))(hn:vs.length=n)(hl:l.length+4*n<=900000):
  Cs 175 #[g,(size:Int),.slice (some ⟨w.heap.size,0,none⟩) n c] (w.alloc (.cells cs 3)) fun e w'=>e= .returned (.tuple #[])/\LayW w0 w' g (l++vs.flatMap (le size)):=by
 have z:=(qaa w.heap.size w).alloc (qab _) (.cells cs 3);refine(Jf2 w0.heap.size g size _ n c vs l _ (h.at_.below z) hz hv (h.arg _ cs (by decide)) (Sl.new w _ _ _ cs rfl hcs) hn hl (qax h.size z.size)).mono ?_;rintro e w' ⟨rfl,y,x⟩;exact⟨rfl,h.st z y x⟩
theorem LayW.names(h:LayW w0 w g l)(ss:List ByteArray)(hz:∀s∈ss,s.size<=15)(n c:Nat)(cs:Array Value)(hcs:cs.toList=ss.map Value.string)(hn:ss.length=n)(hl:l.length+16*n<=600000):
  Cs 298 #[(g:Nat),.slice (some ⟨w.heap.size,0,none⟩) n c] (w.alloc (.cells cs 9)) fun e w'=>e= .returned (.tuple #[])/\LayW w0 w' g (l++ss.flatMap fun s=>nmB s.toList):=by
 have z:=(qaa w.heap.size w).alloc (qab _) (.cells cs 9);refine(Jy8 w0.heap.size g _ n c ss l _ (h.at_.below z) hz (h.arg _ cs (by decide)) (Sl.new w _ _ _ cs rfl hcs) hn hl (qax h.size z.size)).mono ?_;rintro e w' ⟨rfl,y,x⟩;exact⟨rfl,h.st z y x⟩
theorem LayW.text(h:LayW w0 w g l)(s:ByteArray)(hl:l.length<=600000)(hs:s.size<=60000):
  Cs 330 #[g,s] w fun e w'=>e= .returned (.tuple #[])/\LayW w0 w' g (l++txB s.toList):=by
 refine(J4f w0.heap.size g s l w h.at_ hl hs h.size).mono ?_;rintro e w' ⟨rfl,z,hs⟩;exact⟨rfl,h.st (qaa _ _) z hs⟩
theorem LayW.fill(h:LayW w0 w g l)(n:Nat)(hl:l.length<=n)(hn:n<=60000):
  Cs 325 #[g,(n:Int)] w fun e w'=>e= .returned (.tuple #[])/\LayW w0 w' g (l++zeros (n - l.length)):=by
 refine(Juj w0.heap.size g n l w h.at_ hl hn h.size).mono ?_;rintro e w' ⟨rfl,z,y⟩;exact⟨rfl,h.st (qaa _ _) z y⟩
theorem LayW.done(h:LayW w0 w g l):Cs 177 #[g] w (RS w (.tuple #[strOf l,(0:Int)])):=Job _ _ _ w h.at_
end
theorem LayW.words0(w:World)(vs:List Nat)(n c:Nat)(cs:Array Value)(hcs:cs.toList=vs.map fun v:Nat=>Value.int .u64 (v:Int))(hn:vs.length=n)(hl:8*n<=900000):
  Cs 260 #[w.heap.size,.slice (some ⟨w.heap.size+1,0,none⟩) n c] ((w.alloc (.cells #[(0:Int),()] 281)).alloc (.cells cs 55)) fun e w'=>e= .returned (.tuple #[])/\LayW w w' w.heap.size (vs.flatMap (le 8)):=by
 have h:=(LayW.new w).words vs n c cs hcs hn (by simpa using hl);rw[show(w.alloc (.cells #[(0:Int),()] 281)).heap.size=w.heap.size+1 from by simp,qck] at h;exact h
theorem LayW.ints0(w:World)(vs:List Int)(n c:Nat)(cs:Array Value)(hcs:cs.toList=vs.map (Value.int .i64))(hn:vs.length=n)(hl:8*n<=800000):
  Cs 176 #[w.heap.size,.slice (some ⟨w.heap.size+1,0,none⟩) n c] ((w.alloc (.cells #[(0:Int),()] 281)).alloc (.cells cs 3)) fun e w'=>e= .returned (.tuple #[])/\LayW w w' w.heap.size (vs.flatMap fun v=>le 8 (u64 v)):=by
 have h:=(LayW.new w).ints vs n c cs hcs hn (by simpa using hl);rw[show(w.alloc (.cells #[(0:Int),()] 281)).heap.size=w.heap.size+1 from by simp,qck] at h;exact h
theorem LayW.names0(w:World)(ss:List ByteArray)(hz:∀s∈ss,s.size<=15)(n c:Nat)(cs:Array Value)(hcs:cs.toList=ss.map Value.string)(hn:ss.length=n)(hl:16*n<=600000):
  Cs 298 #[w.heap.size,.slice (some ⟨w.heap.size+1,0,none⟩) n c] ((w.alloc (.cells #[(0:Int),()] 281)).alloc (.cells cs 9)) fun e w'=>e= .returned (.tuple #[])/\LayW w w' w.heap.size (ss.flatMap fun s=>nmB s.toList):=by
 have h:=(LayW.new w).names ss hz n c cs hcs hn (by simpa using hl);rw[show(w.alloc (.cells #[(0:Int),()] 281)).heap.size=w.heap.size+1 from by simp,qck] at h;exact h
theorem LayW.small0(w:World)(size:Nat)(hz:Jc7 size)(vs:List Nat)(hv:∀v∈vs,v<256 ^ size)(n c:Nat)(cs:Array Value)(hcs:cs.toList=vs.map fun v:Nat=>Value.int .i64 (v:Int))(hn:vs.length=n)(hl:4*n<=900000):
  Cs 175 #[w.heap.size,(size:Int),.slice (some ⟨w.heap.size+1,0,none⟩) n c] ((w.alloc (.cells #[(0:Int),()] 281)).alloc (.cells cs 3)) fun e w'=>e= .returned (.tuple #[])/\LayW w w' w.heap.size (vs.flatMap (le size)):=by
 have h:=(LayW.new w).small size hz vs hv n c cs hcs hn (by simpa using hl);rw[show(w.alloc (.cells #[(0:Int),()] 281)).heap.size=w.heap.size+1 from by simp,qck] at h;exact h
theorem LayW.fill0(w:World)(n:Nat)(hn:n<=60000):
  Cs 325 #[w.heap.size,(n:Int)] (w.alloc (.cells #[(0:Int),()] 281)) fun e w'=>e= .returned (.tuple #[])/\LayW w w' w.heap.size (zeros n):=(LayW.new w).fill n (qaq _) hn
structure ReadW (w0 w:World) (g:Nat) (l:List UInt8):Prop where
 at_:UnAt w g l
 low:w0.heap.size<=g
 below:Below w0.heap.size w0 w
section
variable {w0 w w':World} {g:Nat} {l r:List UInt8}
theorem ReadW.grown(h:ReadW w0 w g l)(hu:UnAt w' g r)(hg:w.grownBy w' (some g)):ReadW w0 w' g r:=
 ⟨hu,h.low,h.below.trans ⟨hg.os,hg.tape,hg.output,hg.size,fun b hb=>hg.block b (qar hb h.below.size) (fun e=>by cases e;have:=h.low;omega)⟩⟩
theorem ReadW.then_below(h:ReadW w0 w g l)(hb:Below w.heap.size w w'):ReadW w0 w' g l:=⟨h.at_.below hb,h.low,h.below.trans (hb.mono h.below.size)⟩
theorem ReadW.from_(w0:World)(hb:Below w0.heap.size w0 w)(l:List UInt8)(hl:l.length<=900000):Cs 139 #[strOf l] w fun e w'=>∃g,e= .returned (g:Nat)/\ReadW w0 w' g l:=by
 refine(Jqa l w hl).mono ?_;rintro e w' ⟨g,rfl,z,x,y⟩;exact⟨g,rfl,x,qax hb.size z,hb.trans (y.mono hb.size)⟩
theorem ReadW.word(v:Nat)(r:List UInt8)(h:ReadW w0 w g (le 8 v++r))(hv:v<18446744073709551616)(hl:r.length<=900000):
  Cs 228 #[g] w fun e w'=>e= .returned (.int .u64 (v:Int))/\ReadW w0 w' g r:=by
 refine(Jia g v r w h.at_ hv hl).mono ?_;rintro e w' ⟨rfl,z,y⟩;exact⟨rfl,h.grown z y⟩
theorem ReadW.int(n:Int)(r:List UInt8)(h:ReadW w0 w g (le 8 (u64 n)++r))(hn: -9223372036854775808<=n/\n<=9223372036854775807)(hl:r.length<=900000):
  Cs 141 #[g] w fun e w'=>e= .returned (n:Int)/\ReadW w0 w' g r:=by
 refine(Jk9 g n r w h.at_ hn hl).mono ?_;rintro e w' ⟨rfl,z,y⟩;exact⟨rfl,h.grown z y⟩
theorem ReadW.small(size v:Nat)(r:List UInt8)(h:ReadW w0 w g (le size v++r))(hs:Jc7 size)(hv:v<256 ^ size)(hl:r.length<=900000):
  Cs 140 #[g,(size:Int)] w fun e w'=>e= .returned (v:Int)/\ReadW w0 w' g r:=by
 refine(Jcy g size v r w h.at_ hs hv hl).mono ?_;rintro e w' ⟨rfl,z,y⟩;exact⟨rfl,h.grown z y⟩
theorem ReadW.name(s r:List UInt8)(h:ReadW w0 w g (nmB s++r))(hs:s.length<=15)(hl:r.length<=800000):
  Cs 229 #[g] w fun e w'=>e= .returned (strOf s)/\ReadW w0 w' g r:=by
 refine(Jzc g s r w h.at_ hs hl).mono ?_;rintro e w' ⟨rfl,z,y⟩;exact⟨rfl,h.grown z y⟩
end
