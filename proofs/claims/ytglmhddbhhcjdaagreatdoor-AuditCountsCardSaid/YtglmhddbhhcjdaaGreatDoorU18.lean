/-
  Several texts in one: Packr, Packw, Packs, Packt, Packn, Packm, Unp, Unpk, Unps, Unpt, Unpn, Unpm, Crc, Crco, Crcp, Lay.
-/
import Derived.Laws.IdiomStrings
import Derived.Deep.OwnShut
import Derived.Laws.BytesString
import Derived.Lib.EndianBits
import Derived.Test.YtglmhddbhhcjdaaGreatDoorU4
import Derived.Test.YtglmhddbhhcjdaaGreatDoorU6
set_option maxRecDepth 100000
set_option linter.unusedSimpArgs false
set_option maxHeartbeats 4000000
namespace Go.Proofs.YtglmhddbhhcjdaaGreatDoor
open Go.RowKit
def u8c (c:UInt8):Value:= .int .u8 (c.toNat:Int)
theorem Jx3:(Tryz.prog.info? 5).map (fun i=>(i.zero,i.size,i.bytes))=some (some (.int .u8 0),1,1):=by kernel_rfl
structure PkAt (w:World) (B g:Nat) (l:List UInt8):Prop where
 ex:∃v,Bx w g 281 #[.int .i64 0,v]/\w.ownsRow B 5 1 v l.length (l.map u8c)
 low:B<=g
abbrev PkSt (B g:Nat) (w w':World):Prop:=Jaw B g 5 w w'
theorem PkAt.below{w w':World}{B g:Nat}{l:List UInt8}(h:PkAt w B g l)(hb:Below w.heap.size w w'):PkAt w' B g l:=by
 obtain⟨v,z,y⟩:=h.ex;exact⟨⟨v,z.below hb,Jai y hb⟩,h.low⟩
theorem PkAt.new(w:World)(B:Nat)(hB:B<=w.heap.size):PkAt (w.alloc (.cells #[.int .i64 0,.slice none 0 0] 281)) B w.heap.size []:=⟨⟨.slice none 0 0,Bx.new _ _ _,qax _ _ _ _⟩,hB⟩
theorem Jx4(v:Nat):(v:Int) % 256=((UInt8.ofNat v).toNat:Int):=by rw[Jsq];omega
theorem Jkp(B g size v:Nat)(l:List UInt8)(w:World)(h:PkAt w B g l)(hs:size<=60000)(hl:l.length<=1000000)(hB:B<=w.heap.size):
  Calls Tryz.prog 259 #[.pointer (some ⟨g,0,none⟩),.int .u64 (v:Int),.int .i64 (size:Int)] w fun e w'=>e= .returned (.tuple #[])/\PkAt w' B g (l++le size v)/\PkSt B g w w':=by
 obtain⟨i0,G,p,o,n⟩:=info_parts Jx3;have F:=zI G;have V:=zI p;have U:=zI o;have T:=zI n;have E:=zI h;clear G p o n h;go_enter Tryz.func259,Tryz.ntmps259;go_wp2;go_loopw [1,7] (fun x i wr=>∃k:Nat,k<=size/\i= .int .i64 (k:Int)/\x= .int .u64 ((v / 256 ^ k:Nat):Int)/\PkAt wr B g (l++le k v)/\PkSt B g w wr) (fun _ i _=>size - (intOf i).toNat)
 case atStart=>exact⟨0,qak _,rfl,by simp,by simpa[le] using E.out,Jaw.refl _ _ _ _⟩
 case round=>
  obtain⟨k,hk,rfl,rfl,Z,r⟩:=hrel;by_cases D:k<size
  · obtain⟨u,t,S⟩:=Z.ex
    obtain⟨vv,y⟩:∃vv,vv=v / 256 ^ k:=⟨_,rfl⟩;have C:vv<=v:=by rw[y];exact Nat.div_le_self _ _
    have R:=zI (show le (k+1) v=le k v++[UInt8.ofNat vv] from by rw[y];exact le_succ k v);have P:=zI (show v / 256 ^ (k+1)=vv / 256 from by rw[y,Nat.div_div_eq_div_mul,Nat.pow_succ]);rw[<- y];clear y;have m:(l++le k v).length=l.length+k:=(by simp);obtain⟨L,Y⟩:∃L,L=l++le k v:=⟨_,rfl⟩;obtain⟨N,W⟩:∃N,N=L.length:=⟨_,rfl⟩;rw[<- Y,<- W] at S;rw[<- Y,<- W] at m;have O:=zI Y;have A:=zI W;clear W Y;have b1:=t.at_ 1 rfl;have hJ:=t.free 1;have M:=zI (Sl.new wr 5 wr.heap.size [.int .u8 ((vv:Int) % 256)] #[.int .u8 ((vv:Int) % 256)] rfl rfl);have K:=zI (show ∀u∈[Value.int .u8 ((vv:Int) % 256)],u.oneCell'=true from fun u hu=>by rw[qag.1 hu];rfl);have s:=(qaa wr.heap.size wr).alloc (qab _) (.cells #[.int .u8 ((vv:Int) % 256)] 5);have J:=zI s;have q:=zI (Jai S s);have j:=zI (t.below s);have f:=zI r;have Ha:N<=1060000:=(by omega);have d:=zI Z.low;have I:=zI (Jx4 vv);clear Z t S r s m;have Hb:(wr.alloc (.cells #[.int .u8 ((vv:Int) % 256)] 5)).heap.size=wr.heap.size+1:=(by simp);have Hc:=f.out.size;go_wp2_with (at_builtin;refine Jao _ rfl _ _ 74 rfl B 5 i0 _ 1 1 Tryz.underlying74 F.out V.out U.out T.out rfl (by decide) u N (L.map u8c) rfl q.out (some ⟨wr.heap.size,0,none⟩) 1 1 [.int .u8 ((vv:Int) % 256)] rfl rfl M.out K.out ?c4 ?c5 ?c6 ?_;(unfold maxLen;omega);(omega);(omega);intro v2 w2 z c _;obtain⟨AV,cV,eV,_⟩:=Jaq z;subst eV;have BX2:=zI (j.out.grown c (j.out.not_row q.out (by decide)));have y0:=BX2.out.at_ 1 rfl;have y1:=BX2.out.free 1)
    have bx3:=BX2.out.set 1 (.slice AV (N+1) cV);have b:PkSt B g w (w2.setCell ⟨g,1,none⟩ (.slice AV (N+1) cV)):=(f.out.trans (Jaw.of_below J.out)).trans ((Jaw.row c q.out).trans (Jaw.set w2 1 (.slice AV (N+1) cV)));have a:=z.kept (Jal w2 g 1 (.slice AV (N+1) cV)) (.inr (fun e=>BX2.out.not_row z (by decide) e.symm));go_roundw
    case rel=>exact⟨k+1,by omega,by go_num,by rw[P.out];rfl,⟨⟨.slice AV (N+1) cV,bx3,by rw[I.out] at a;rw[R.out,<- qaj,<- O.out,qaw,qac,<- A.out];exact a⟩,d.out⟩,b⟩
    case measure=>simp[intOf];omega
  · have H:size=k:=by omega
    subst H;go_wp2;go_end0
    exact⟨rfl,Z,r⟩
structure Jg8 (w:World) (B g:Nat) (A:Option Addr):Prop where
 ok:∀a,A=some a ->a.block<w.heap.size/\a.block≠g/\(a.block<B\/∀cs fr,w.heap[a.block]? ≠some (.cells cs 5 fr))
theorem Jg8.sl{w w':World}{B g:Nat}{A:Option Addr}{xs:List Value}(h:Jg8 w B g A)(hs:PkSt B g w w')(hx:Sl w A xs):Sl w' A xs:=by
 refine⟨fun hne=> ?_⟩;obtain⟨b,off,rfl,z,y⟩:=hx.at_ hne;obtain⟨x,v,t⟩:=h.ok _ rfl;have e:=hs.block b x v t;exact⟨b,off,rfl,qa6 z hs.size,fun j u hj=>(qbl (w:=w) e).trans (y j u hj)⟩
theorem Jg8.new{w:World}{B g:Nat}{T:TypeId}(cs:Array Value)(hT:T≠5)(hg:g<w.heap.size):Jg8 (w.alloc (.cells cs T)) B g (some ⟨w.heap.size,0,none⟩):=by
 refine⟨fun a e=> ?_⟩;cases e
 refine⟨by simp,by show w.heap.size≠g;omega,.inr fun cs' fr e=> ?_⟩;rw[heap_alloc_new] at e;injection e with e;injection e with _ e;exact hT e
theorem PkAt.lt{w:World}{B g:Nat}{l:List UInt8}(h:PkAt w B g l):g<w.heap.size:=by obtain⟨v,z,_⟩:=h.ex;exact z.lt
theorem PkAt.e0{w:World}{B g:Nat}{l:List UInt8}(h:PkAt w B g l):w.cell? ⟨g,0,none⟩=some (.int .i64 0)/\w.frozen? ⟨g,0,none⟩=false:=by
 obtain⟨v,z,_⟩:=h.ex;exact⟨z.at_ 0 rfl,z.free 0⟩
theorem PkAt.set0{w:World}{B g:Nat}{l:List UInt8}(h:PkAt w B g l):PkAt (w.setCell ⟨g,0,none⟩ (.int .i64 0)) B g l:=by
 obtain⟨v,z,y⟩:=h.ex;exact⟨⟨v,z.set 0 (.int .i64 0),y.kept (Jal w g 0 _) (.inr (fun e=>z.not_row y (by decide) e.symm))⟩,h.low⟩
theorem Jkq(B g:Nat)(l:List UInt8)(w:World)(h:PkAt w B g l):
  Calls Tryz.prog 224 #[.pointer (some ⟨g,0,none⟩),.int .i64 0] w fun e w'=>e= .returned (.bool false)/\PkAt w' B g l/\PkSt B g w w':=by
 obtain⟨e0,e1⟩:=h.e0;have z:=h.set0;have e2:=z.e0.1;have y:PkSt B g w (w.setCell ⟨g,0,none⟩ (.int .i64 0)):=Jaw.set w 0 _;clear h;go_enter Tryz.func224,Tryz.ntmps224;go_wp2;go_ret;exact⟨rfl,z,y⟩
theorem Jhz(B g:Nat)(A:Option Addr)(n c:Nat)(vs:List Nat)(l:List UInt8)(w:World)(h:PkAt w B g l)(hA:Jg8 w B g A)(hv:Sl w A (vs.map fun v:Nat=>Value.int .u64 (v:Int)))(hn:vs.length=n)(hl:l.length+8*n<=900000)(hB:B<=w.heap.size):
  Calls Tryz.prog 260 #[.pointer (some ⟨g,0,none⟩),.slice A n c] w fun e w'=>e= .returned (.tuple #[])/\PkAt w' B g (l++vs.flatMap (le 8))/\PkSt B g w w':=by
 obtain⟨e0,_⟩:=h.e0;have Y:=zI h;have W:=zI hv;have V:=zI hA;clear h hv hA;go_enter Tryz.func260,Tryz.ntmps260;go_wp2_with fail
 go_loopw [18] (fun i wr=>∃k:Nat,k<=n/\i= .int .i64 (k:Int)/\PkAt wr B g (l++(vs.take k).flatMap (le 8))/\PkSt B g w wr) (fun i _=>n - (intOf i).toNat)
 case atStart=>exact⟨0,qak _,rfl,by simpa using Y.out,Jaw.refl _ _ _ _⟩
 case round=>
  obtain⟨k,P,rfl,u,z⟩:=hrel;by_cases t:k<n
  · have K:k<vs.length:=by rw[hn];exact t
    obtain⟨b,off,rfl,_,U⟩:=(V.out.sl z W.out).get (j:=k) (by simpa using K);rw[qao] at U
    have T:=zI (show(vs.take (k+1)).flatMap (le 8)=(vs.take k).flatMap (le 8)++le 8 vs[k] from by
     have e:vs.take (k+1)=vs.take k++[vs[k]]:=by rw[List.take_add_one,qbw K];rfl
     rw[e,qan,qad,qae,qai])
    have y:((vs.take k).flatMap (le 8)).length=8*k:=by
     have S:∀m:List Nat,(m.flatMap (le 8)).length=8*m.length:=fun m=>by
      induction m with
      | nil=>rfl
      | cons a r ih=>rw[qad,qac,ih];simp;omega
     rw[S,qa4];omega
    have s:=zI (show(l++(vs.take k).flatMap (le 8)).length<=1000000 from by rw[qac,y];omega);have R:=zI z.size;have q:=zI z;have p:=zI (Jkp B g 8 vs[k] _ wr u (by omega) s.out (qap hB z.size));clear u z y;generalize vs[k]'K=x at*;go_wp2_with fail
    refine p.out.mono ?_;rintro e w2 ⟨rfl,o,f⟩;go_wp2_with fail
    go_roundw
    case rel=>exact⟨k+1,by omega,by go_num,by rw[T.out,<- qaj];exact o,q.out.trans f⟩
    case measure=>simp[intOf];omega
  · have d:n=k:=by omega
    have Z:=zI (show vs.take k=vs from by rw[<- d,<- hn,qa3]);rw[Z.out] at u;clear Z;go_wp2_with fail
    go_end0
    exact⟨rfl,u,z⟩
theorem J6j(n:Int):((u64 n:Nat):Int)=n % 18446744073709551616:=by unfold u64;omega
theorem Jns(B g:Nat)(A:Option Addr)(n c:Nat)(vs:List Int)(l:List UInt8)(w:World)(h:PkAt w B g l)(hA:Jg8 w B g A)(hv:Sl w A (vs.map (Value.int .i64)))(hn:vs.length=n)(hl:l.length+8*n<=800000)(hB:B<=w.heap.size):
  Calls Tryz.prog 176 #[.pointer (some ⟨g,0,none⟩),.slice A n c] w fun e w'=>e= .returned (.tuple #[])/\PkAt w' B g (l++vs.flatMap fun v=>le 8 (u64 v))/\PkSt B g w w':=by
 have T:=zI h;have S:=zI hv;have R:=zI hA;clear h hv hA;go_enter Tryz.func176,Tryz.ntmps176;go_wp2_with fail
 go_loopw [8] (fun i wr=>∃k:Nat,k<=n/\i= .int .i64 (k:Int)/\PkAt wr B g (l++(vs.take k).flatMap fun v=>le 8 (u64 v))/\PkSt B g w wr) (fun i _=>n - (intOf i).toNat)
 case atStart=>exact⟨0,qak _,rfl,by simpa using T.out,Jaw.refl _ _ _ _⟩
 case round=>
  obtain⟨k,M,rfl,u,z⟩:=hrel;by_cases o:k<n
  · have K:k<vs.length:=by rw[hn];exact o
    obtain⟨b,off,rfl,_,P⟩:=(R.out.sl z S.out).get (j:=k) (by simpa using K);rw[qao] at P
    have O:=zI (show((vs.take (k+1)).flatMap fun v=>le 8 (u64 v))=((vs.take k).flatMap fun v=>le 8 (u64 v))++le 8 (u64 vs[k]) from by
     have e:vs.take (k+1)=vs.take k++[vs[k]]:=by rw[List.take_add_one,qbw K];rfl
     rw[e,qan,qad,qae,qai])
    have t:((vs.take k).flatMap fun v=>le 8 (u64 v)).length=8*k:=by
     have N:∀m:List Int,(m.flatMap fun v=>le 8 (u64 v)).length=8*m.length:=fun m=>by
      induction m with
      | nil=>rfl
      | cons a r ih=>rw[qad,qac,ih];simp;omega
     rw[N,qa4];omega
    have f:=zI (show(l++(vs.take k).flatMap fun v=>le 8 (u64 v)).length+8*1<=900000 from by rw[qac,t];omega);have d:=zI z;have y:=(qaa wr.heap.size wr).alloc (qab _) (.cells #[.int .u64 (vs[k] % 18446744073709551616)] 55);have Z:=zI y
    have s:=zI (show Sl (wr.alloc (.cells #[.int .u64 (vs[k] % 18446744073709551616)] 55)) (some ⟨wr.heap.size,0,none⟩) ([u64 vs[k]].map fun v:Nat=>Value.int .u64 (v:Int)) from by
     rw[qbb,List.map_nil,J6j];exact Sl.new wr 55 wr.heap.size [.int .u64 (vs[k] % 18446744073709551616)] #[.int .u64 (vs[k] % 18446744073709551616)] rfl rfl)
    have q:=zI (Jhz B g _ 1 1 [u64 vs[k]] _ _ (u.below y) (Jg8.new _ (by decide) u.lt) s.out rfl f.out (qap hB (qap z.size y.size)));have p:=zI (show([u64 vs[k]].flatMap (le 8))=le 8 (u64 vs[k]) from by rw[qad,qae,qai]);rw[p.out] at q;clear u z t y s p;generalize vs[k]'K=x at*;go_wp2_with fail
    refine q.out.mono ?_;rintro e w2 ⟨rfl,Y,W⟩;go_wp2_with fail
    go_roundw
    case rel=>exact⟨k+1,by omega,by go_num,by rw[O.out,<- qaj];exact Y,(d.out.trans (Jaw.of_below Z.out)).trans W⟩
    case measure=>simp[intOf];omega
  · have V:n=k:=by omega
    have U:=zI (show vs.take k=vs from by rw[<- V,<- hn,qa3]);rw[U.out] at u;clear U;go_wp2_with fail
    go_end0
    exact⟨rfl,u,z⟩
def Jc1 (size:Nat):Prop:=size=1\/size=2\/size=4
theorem Jc1.lt{size v:Nat}(h:Jc1 size)(hv:v<256 ^ size):v<4294967296:=by
 rcases h with rfl | rfl | rfl<;>simp at hv<;>omega
theorem Jry(size v:Nat)(w:World)(hs:Jc1 size)(hv:v<256 ^ size):
  Calls Tryz.prog 225 #[.int .i64 (size:Int),.int .i64 (v:Int)] w fun e w'=>e= .returned (.int .i64 0)/\w=w':=by
 have y:decide ((v:Int)<0)=false:=qat (by omega);rcases hs with rfl | rfl | rfl
 · simp at hv
   have z:((v:Int) / 256 !=0)=false:=by rw[show(v:Int) / 256=0 by omega];rfl
   go_enter Tryz.func225,Tryz.ntmps225;go_wp2;go_ret;exact⟨rfl,rfl⟩
 · simp at hv
   have z:((v:Int) / 65536 !=0)=false:=by rw[show(v:Int) / 65536=0 by omega];rfl
   go_enter Tryz.func225,Tryz.ntmps225;go_wp2;go_ret;exact⟨rfl,rfl⟩
 · simp at hv
   have z:((v:Int) / 4294967296 !=0)=false:=by rw[show(v:Int) / 4294967296=0 by omega];rfl
   go_enter Tryz.func225,Tryz.ntmps225;go_wp2;go_ret;exact⟨rfl,rfl⟩
theorem Jpp{α:Type}(f:α ->List UInt8){vs:List α}{k:Nat}(K:k<vs.length):(vs.take (k+1)).flatMap f=(vs.take k).flatMap f++f vs[k]:=by
 have e:vs.take (k+1)=vs.take k++[vs[k]]:=by rw[List.take_add_one,qbw K];rfl
 rw[e,qan,qad,qae,qai]
theorem Je1{α:Type}(f:α ->List UInt8)(c:Nat)(h:∀a,(f a).length=c):∀m:List α,(m.flatMap f).length=c*m.length
 | []=>by simp
 | a::r=>by rw[qad,qac,Je1 f c h r,h,qbr,Nat.mul_add];omega
structure PkIn (w w':World) (B g:Nat) (l:List UInt8):Prop where
 at_:PkAt w' B g l
 st:PkSt B g w w'
theorem PkIn.drew{w w':World}{B g:Nat}{l:List UInt8}(h:PkIn w w' B g l):PkIn w w'.drew B g l:=⟨h.at_.below (qaa _ _).drew,h.st.trans (Jaw.of_below (qaa _ _).drew)⟩
theorem PkIn.next{w w1 w':World}{B g:Nat}{l l':List UInt8}(h:PkIn w w1 B g l)(h2:PkAt w' B g l')(h3:PkSt B g w1 w'):PkIn w w' B g l':=⟨h2,h.st.trans h3⟩
theorem Jfv(B g size:Nat)(A:Option Addr)(n c:Nat)(vs:List Nat)(l:List UInt8)(w:World)(h:PkAt w B g l)(hs:Jc1 size)(hv:∀v∈vs,v<256 ^ size)(hA:Jg8 w B g A)(hsl:Sl w A (vs.map fun v:Nat=>Value.int .i64 (v:Int)))(hn:vs.length=n)(hl:l.length+4*n<=900000)(hB:B<=w.heap.size):
  Calls Tryz.prog 175 #[.pointer (some ⟨g,0,none⟩),.int .i64 (size:Int),.slice A n c] w fun e w'=>e= .returned (.tuple #[])/\PkAt w' B g (l++vs.flatMap (le size))/\PkSt B g w w':=by
 have D:=zI hsl;have C:=zI hA;have f:=zI (fun W=>Jry size 0 W hs (Nat.pow_pos (by decide)));have d:=zI (fun W hW=>Jkq B g l W hW);have z:PkIn w w B g l:=⟨h,Jaw.refl _ _ _ _⟩;have hJ:=zI z;have y:=z.drew;clear hsl hA h z;go_enter Tryz.func175,Tryz.ntmps175;go_upto_region 0 with fail
 go_region_held3 (fun w'=>PkIn w w' B g l)
  (first
    | assumption
    | exact y
    | exact PkIn.drew (by assumption))
  (first
    | (go_at_call 225;refine(f.out _).mono ?_;rintro e wf ⟨rfl,s⟩;subst s)
    | (go_at_call 224;refine(d.out _ (PkIn.at_ (by assumption))).mono ?_;rintro e wq ⟨rfl,r,q⟩;have u:=PkIn.next (by assumption) r q))
 have HQ:=zI u;have Ha:=u.st.size;clear u r q y;go_wp2_with fail
 go_loopw [20] (fun i wr=>∃k:Nat,k<=n/\i= .int .i64 (k:Int)/\PkIn w wr B g (l++(vs.take k).flatMap (le size))) (fun i _=>n - (intOf i).toNat)
 case atStart=>exact⟨0,qak _,rfl,by simpa using HQ.out⟩
 case round=>
  obtain⟨k,hk,rfl,z⟩:=hrel;by_cases Z:k<n
  · have K:k<vs.length:=by rw[hn];exact Z
    obtain⟨b,off,rfl,_,hc⟩:=(C.out.sl z.st D.out).get (j:=k) (by simpa using K);rw[qao] at hc;have HF:=zI (Jpp (le size) K);have p:=Je1 (le size) size (fun a=>Ja0 size a) (vs.take k);have Y:size<=4:=by rcases hs with rfl | rfl | rfl<;>omega
    have V:size*(vs.take k).length<=4*n:=Nat.mul_le_mul Y (by rw[qa4];omega);have o:=zI (show(l++(vs.take k).flatMap (le size)).length<=1000000 from by rw[qac,p];omega);have U:=zI (fun W=>Jry size vs[k] W hs (hv _ (qal K)));have G:=hs.lt (hv _ (qal K));generalize vs[k]'K=x at*;obtain⟨L,T⟩:∃L,L=l++(vs.take k).flatMap (le size):=⟨_,rfl⟩;rw[<- T] at z o;have S:=zI T;have R:=zI (fun W hW=>Jkq B g L W hW);have P:=zI (fun W hW hB=>Jkp B g size x L W hW (by omega) o.out hB);have Hb:=z.st.size;have y:=z.drew;clear T p V;go_upto_region 4 with fail
    go_region_held3 (fun w'=>PkIn w w' B g L)
     (first
       | assumption
       | exact y
       | exact PkIn.drew (by assumption))
     (first
       | (go_at_call 225;refine(U.out _).mono ?_;rintro e wf ⟨rfl,s⟩;subst s)
       | (go_at_call 224;refine(R.out _ (PkIn.at_ (by assumption))).mono ?_;rintro e wz ⟨rfl,O,N⟩;have t:=PkIn.next (by assumption) O N))
    have M:=t.st.size;have F:(x:Int) % 18446744073709551616=(x:Int):=(by omega);go_wp2_with fail
    refine(P.out _ t.at_ (qap hB M)).mono ?_;rintro e w2 ⟨rfl,J,I⟩;have m:=t.next J I;go_wp2_with fail
    go_roundw
    case rel=>exact⟨k+1,by omega,by go_num,by rw[HF.out,<- qaj,<- S.out];exact m⟩
    case measure=>simp[intOf];omega
  · have H:n=k:=by omega
    have E:=zI (show vs.take k=vs from by rw[<- H,<- hn,qa3]);rw[E.out] at z;clear E;go_wp2_with fail
    go_end0
    exact⟨rfl,z.at_,z.st⟩
def zeros (n:Nat):List UInt8:=List.replicate n 0
@[simp] theorem Jch(n:Nat):(zeros n).length=n:=by simp[zeros]
theorem Jx5(k:Nat):le k 0=zeros k:=by
 induction k with
 | zero=>rfl
 | succ k ih=>rw[le,Nat.zero_div,ih];rfl
theorem Jpq(s:ByteArray):Lib.strCells s=s.toList.map u8c:=by rw[ByteArray.toList_eq];rfl
def strOf (l:List UInt8):ByteArray:=⟨l.toArray⟩
theorem J6k{w:World}{B n c:Nat}{A:Option Addr}{l:List UInt8}(h:w.ownsRow B 5 1 (.slice A n c) n (l.map u8c))(hn:l.length=n):
  (convert 74 9 (.slice A n c)).run Tryz.prog w= .ok (.string (strOf l)) w:=by
 subst hn;obtain⟨A',c',e,z⟩:=Jaq h;cases e
 rcases A with _ | a
 · have y:l=[]:=by
    rcases l with _ | ⟨x,r⟩
    · rfl
    · obtain⟨b,off,e,_⟩:=z.at_ (by simp)
      cases e
   subst y;rw[run_convert_bytes_string w 74 9 5 none _ c Tryz.underlying74 Tryz.underlying5 Tryz.underlying9];simp[Conv.bytesToString,strOf];rfl
 · refine run_convert_bytes_back w 74 9 5 a c l Tryz.underlying74 Tryz.underlying5 Tryz.underlying9 (fun j hj=> ?_)
   exact J41 w z j _ (by rw[qbx,qbw hj];rfl)
theorem Jnt(B g:Nat)(l:List UInt8)(w:World)(h:PkAt w B g l):
  Calls Tryz.prog 177 #[.pointer (some ⟨g,0,none⟩)] w fun e w'=>e= .returned (.tuple #[.string (strOf l),.int .i64 0])/\w=w':=by
 obtain⟨v,z,y⟩:=h.ex;obtain⟨A,c,rfl,_⟩:=Jaq y;have e0:=z.at_ 0 (v:= .int .i64 0) rfl;have e1:=z.at_ 1 (v:= .slice A l.length c) rfl;have x:=J6k y rfl;clear z y h;go_enter Tryz.func177,Tryz.ntmps177;go_wp2;go_ret2;exact⟨rfl,rfl⟩
theorem J21(B g:Nat)(l:List UInt8)(w:World)(h:PkAt w B g l):
  Calls Tryz.prog 331 #[.pointer (some ⟨g,0,none⟩)] w fun e w'=>e= .returned (.int .i64 (l.length:Int))/\w=w':=by
 obtain⟨v,z,y⟩:=h.ex;obtain⟨A,c,rfl,_⟩:=Jaq y;have e1:=z.at_ 1 (v:= .slice A l.length c) rfl;clear z y h;go_enter Tryz.func331,Tryz.ntmps331;go_wp2;go_ret;exact⟨rfl,rfl⟩
theorem Jtp(B g n:Nat)(l:List UInt8)(w:World)(h:PkAt w B g l)(hl:l.length<=n)(hn:n<=60000)(hB:B<=w.heap.size):
  Calls Tryz.prog 325 #[.pointer (some ⟨g,0,none⟩),.int .i64 (n:Int)] w fun e w'=>e= .returned (.tuple #[])/\PkAt w' B g (l++zeros (n - l.length))/\PkSt B g w w':=by
 obtain⟨v,u,j⟩:=h.ex;obtain⟨A,c,rfl,_⟩:=Jaq j;have e1:=u.at_ 1 (v:= .slice A l.length c) rfl;have q:=zI (Jkq B g l w h);have t:=zI (fun W hW hB=>Jkp B g (n - l.length) 0 l W hW (by omega) (by omega) hB);rw[Jx5] at t;have f:decide ((n:Int)<(l.length:Int))=false:=qat (by omega);have d:decide ((n:Int)<0)=false:=qat (by omega);have b:decide ((60000:Int)<(n:Int))=false:=qat (by omega);clear u j;go_enter Tryz.func325,Tryz.ntmps325;go_wp2_with fail
 refine q.out.mono ?_;rintro e w2 ⟨rfl,y,x⟩;have p:=x.size;obtain⟨v2,z,s⟩:=y.ex;obtain⟨A2,c2,rfl,_⟩:=Jaq s;have e2:=z.at_ 1 (v:= .slice A2 l.length c2) rfl;have i:((n:Int) - (l.length:Int))=((n - l.length:Nat):Int):=by omega
 have o:=zI x;have r:=zI (t.out w2 y (qap hB p));clear z s y x e1 h;go_upto_region 7 with fail
 go_wp2_with fail
 refine r.out.mono ?_;rintro e w3 ⟨rfl,m,k⟩;go_wp2_with fail
 go_end0
 exact⟨rfl,m,o.out.trans k⟩
def txB (s:List UInt8):List UInt8:=le 2 s.length++s
theorem J22(B g:Nat)(s:ByteArray)(l:List UInt8)(w:World)(h:PkAt w B g l)(hl:l.length<=600000)(hs:s.size<=60000)(hB:B<=w.heap.size):
  Calls Tryz.prog 330 #[.pointer (some ⟨g,0,none⟩),.string s] w fun e w'=>e= .returned (.tuple #[])/\PkAt w' B g (l++txB s.toList)/\PkSt B g w w':=by
 obtain⟨i0,M,q,p,o⟩:=info_parts Jx3;have J:=zI M;have Z:=zI q;have Y:=zI p;have W:=zI o;clear M q p o;have V:=zI (Jkq B g l w h);have n:s.toList.length=s.size:=by rw[ByteArray.toList_eq,Array.length_toList];rfl
 have K:(s.size:Int) % 18446744073709551616=(s.size:Int):=by omega
 clear h;go_enter Tryz.func330,Tryz.ntmps330;go_wp2_with fail
 refine V.out.mono ?_;rintro e w2 ⟨rfl,m,y⟩;have U:=zI y;have T:=y.size;have S:=zI (Jkp B g 2 s.size l w2 m (by omega) (by omega) (qap hB T));clear m y;go_wp2_with fail
 refine S.out.mono ?_;rintro e w3 ⟨rfl,x,u⟩;have R:=zI (U.out.trans u);have I:=u.size;obtain⟨v,t,d⟩:=x.ex;have k:=zI x.low;obtain⟨L,b⟩:∃L,L=l++le 2 s.size:=⟨_,rfl⟩;obtain⟨N,a⟩:∃N,N=L.length:=⟨_,rfl⟩;rw[<- b,<- a] at d;have H:N<=600002:=by rw[a,b,qac,Ja0];omega
 have G:=zI a;have P:=zI b;have b1:=t.at_ 1 (v:=v) rfl;have j:=zI t;have r:=zI d;obtain⟨A,c,rfl,_⟩:=Jaq d;clear t d x u b a;go_wp2_with (at_builtin;refine Lib.wpList_append_own_string _ rfl _ _ 74 9 rfl B 5 i0 Tryz.underlying74 Tryz.underlying9 J.out Z.out Y.out W.out (.slice A N c) N (L.map u8c) rfl r.out s rfl ?c4 ?c5 ?c6 ?_;(unfold maxLen;omega);(omega);(omega);intro v2 w4 z i _;obtain⟨AV,cV,eV,_⟩:=Jaq z;subst eV;have BX2:=zI (j.out.grown i (j.out.not_row r.out (by decide)));have y0:=BX2.out.at_ 1 rfl;have y1:=BX2.out.free 1)
 have bx3:=BX2.out.set 1 (.slice AV (N+s.size) cV);have f:PkSt B g w (w4.setCell ⟨g,1,none⟩ (.slice AV (N+s.size) cV)):=R.out.trans ((Jaw.row i r.out).trans (Jaw.set w4 1 _));have O:=z.kept (Jal w4 g 1 (.slice AV (N+s.size) cV)) (.inr (fun e=>BX2.out.not_row z (by decide) e.symm));go_wp2_with fail
 go_end0
 refine⟨rfl,⟨⟨.slice AV (N+s.size) cV,bx3,?_⟩,k.out⟩,f⟩;unfold txB;rw[n,<- qaj,<- P.out,qac,<- G.out,qaw,n,<- Jpq];exact O
def nmB (s:List UInt8):List UInt8:=UInt8.ofNat s.length::(s++zeros (15 - s.length))
theorem Jfw{s:List UInt8}(h:s.length<=15):(nmB s).length=16:=by simp[nmB];omega
theorem J6l(l:List UInt8)(s:ByteArray):(l++[UInt8.ofNat s.size])++s.toList++le (15 - s.size) 0=l++nmB s.toList:=by
 have z:s.toList.length=s.size:=by rw[ByteArray.toList_eq,Array.length_toList];rfl
 unfold nmB;rw[z,Jx5]
 simp
theorem Jx6(B g:Nat)(A:Option Addr)(n c:Nat)(ss:List ByteArray)(l:List UInt8)(w:World)(h:PkAt w B g l)(hs:∀s∈ss,s.size<=15)(hA:Jg8 w B g A)(hsl:Sl w A (ss.map Value.string))(hn:ss.length=n)(hl:l.length+16*n<=600000)(hB:B<=w.heap.size):
  Calls Tryz.prog 298 #[.pointer (some ⟨g,0,none⟩),.slice A n c] w fun e w'=>e= .returned (.tuple #[])/\PkAt w' B g (l++ss.flatMap fun s=>nmB s.toList)/\PkSt B g w w':=by
 obtain⟨i0,hi,M,J,I⟩:=info_parts Jx3;have HI:=zI hi;have H:=zI M;have G:=zI J;have F:=zI I;have HW:=zI (show PkIn w w B g l from⟨h,Jaw.refl _ _ _ _⟩);have HV:=zI hsl;have HA:=zI hA;clear hi M J I h hsl hA;go_enter Tryz.func298,Tryz.ntmps298;go_wp2_with fail
 go_loopw [9] (fun i wr=>∃k:Nat,k<=n/\i= .int .i64 (k:Int)/\PkIn w wr B g (l++(ss.take k).flatMap fun s=>nmB s.toList)) (fun i _=>n - (intOf i).toNat)
 case atStart=>exact⟨0,qak _,rfl,by simpa using HW.out⟩
 case round=>
  obtain⟨k,hk,rfl,z⟩:=hrel;by_cases Hf:k<n
  · have K:k<ss.length:=by rw[hn];exact Hf
    obtain⟨b,off,rfl,_,hc⟩:=(HA.out.sl z.st HV.out).get (j:=k) (by simpa using K);rw[qao] at hc;have HF:=zI (Jpp (fun s:ByteArray=>nmB s.toList) K);have Ht:=hs _ (qal K)
    have E:∀m:List ByteArray,(∀s∈m,s.size<=15) ->(m.flatMap fun s=>nmB s.toList).length=16*m.length:=fun m=>by
     induction m with
     | nil=>intro _;rfl
     | cons a r ih=>
       intro hm;have ha:a.toList.length<=15:=by rw[ByteArray.toList_eq,Array.length_toList];exact hm a (by simp)
       rw[qad,qac,ih (fun s hs=>hm s (by simp[hs])),Jfw ha,qbr];omega
    have D:(l++(ss.take k).flatMap fun s=>nmB s.toList).length<=600000:=by
     rw[qac,E _ (fun s hs'=>hs s (qbu hs')),qa4];omega
    generalize ss[k]'K=x at*;obtain⟨L,hL⟩:∃L,L=l++(ss.take k).flatMap fun s=>nmB s.toList:=⟨_,rfl⟩;rw[<- hL] at z D;have Hg:=zI hL;have Hh:=zI (Jkq B g L wr z.at_);have Hu:=z.st.size;have Hi:=zI z;clear hL E z;go_wp2_with fail
    refine Hh.out.mono ?_;rintro e w1 ⟨rfl,V,U⟩;have C:=zI (Hi.out.st.trans U);have Hv:=U.size;obtain⟨v,T,hr⟩:=V.ex;have hJ:=zI V.low;obtain⟨N,hN⟩:∃N,N=L.length:=⟨_,rfl⟩;rw[<- hN] at hr;have Hw:N<=600000:=(by omega);have HN:=zI hN;obtain⟨AA,cc,rfl,_⟩:=Jaq hr;have b1:=T.at_ 1 (v:= .slice AA N cc) rfl;have Hj:=zI (Sl.new w1 5 w1.heap.size [.int .u8 (x.size:Int)] #[.int .u8 (x.size:Int)] rfl rfl);have Hk:=zI (show ∀u∈[Value.int .u8 (x.size:Int)],u.oneCell'=true from fun u hu=>by rw[qag.1 hu];rfl);have p:=(qaa w1.heap.size w1).alloc (qab _) (.cells #[.int .u8 (x.size:Int)] 5);have Hl:=zI p;have S:=zI (Jai hr p);have Ha:=zI (T.below p);have Hm:=zI (show(x.size:Int)=((UInt8.ofNat x.size).toNat:Int) from by rw[<- Jx4];omega);have Hx:(w1.alloc (.cells #[.int .u8 (x.size:Int)] 5)).heap.size=w1.heap.size+1:=(by simp);clear V T hr U p hN D;go_upto_region 8 with(at_builtin;refine Jao _ rfl _ _ 74 rfl B 5 i0 _ 1 1 Tryz.underlying74 HI.out H.out G.out F.out rfl (by decide) (.slice AA N cc) N (L.map u8c) rfl S.out (some ⟨w1.heap.size,0,none⟩) 1 1 [.int .u8 (x.size:Int)] rfl rfl Hj.out Hk.out ?c4 ?c5 ?c6 ?_;(unfold maxLen;omega);(omega);(omega);intro v2 w2 y o _;obtain⟨AV,cV,eV,_⟩:=Jaq y;subst eV;have BX2:=zI (Ha.out.grown o (Ha.out.not_row S.out (by decide)));have y0:=BX2.out.at_ 1 rfl;have y1:=BX2.out.free 1)
    have bx3:=BX2.out.set 1 (.slice AV (N+1) cV);have W:PkSt B g w (w2.setCell ⟨g,1,none⟩ (.slice AV (N+1) cV)):=(C.out.trans (Jaw.of_below Hl.out)).trans ((Jaw.row o S.out).trans (Jaw.set w2 1 _));have Hb:=y.kept (Jal w2 g 1 (.slice AV (N+1) cV)) (.inr (fun e=>BX2.out.not_row y (by decide) e.symm));have Hy:=o.size;have f:=zI Hb;have d:=zI bx3;have Hc:=zI W;obtain⟨w3,R⟩:∃w3,w3=w2.setCell ⟨g,1,none⟩ (.slice AV (N+1) cV):=⟨_,rfl⟩;rw[<- R] at f d Hc ⊢;have Hz:w2.heap.size=w3.heap.size:=by rw[R];exact(World.size_setCell w2 _ _).symm
    have c1:=d.out.at_ 1 (v:= .slice AV (N+1) cV) rfl;clear R bx3 W Hb y o BX2 y0 y1;go_upto_region 9 with(at_builtin;refine Lib.wpList_append_own_string _ rfl _ _ 74 9 rfl B 5 i0 Tryz.underlying74 Tryz.underlying9 HI.out H.out G.out F.out (.slice AV (N+1) cV) (N+1) (L.map u8c++[.int .u8 (x.size:Int)]) rfl f.out x rfl ?d4 ?d5 ?d6 ?_;(unfold maxLen;omega);(omega);(omega);intro v4 w4 t Z _;obtain⟨AY,cY,eY,_⟩:=Jaq t;subst eY;have BX4:=zI (d.out.grown Z (d.out.not_row f.out (by decide)));have y0:=BX4.out.at_ 1 rfl;have y1:=BX4.out.free 1)
    have bx5:=BX4.out.set 1 (.slice AY (N+1+x.size) cY);have q:PkSt B g w (w4.setCell ⟨g,1,none⟩ (.slice AY (N+1+x.size) cY)):=Hc.out.trans ((Jaw.row Z f.out).trans (Jaw.set w4 1 _));have Y:=t.kept (Jal w4 g 1 (.slice AY (N+1+x.size) cY)) (.inr (fun e=>BX4.out.not_row t (by decide) e.symm));have H0:=Z.size;obtain⟨w5,P⟩:∃w5,w5=w4.setCell ⟨g,1,none⟩ (.slice AY (N+1+x.size) cY):=⟨_,rfl⟩;rw[<- P] at bx5 q Y ⊢;have O:x.toList.length=x.size:=by rw[ByteArray.toList_eq,Array.length_toList];rfl
    have Hd:PkAt w5 B g (L++[UInt8.ofNat x.size]++x.toList):=by
     refine⟨⟨_,bx5,?_⟩,hJ.out⟩;rw[qac,qac,O,<- HN.out,qaw,qaw,<- Jpq];rw[Hm.out] at Y;exact Y
    have Hr:w4.heap.size=w5.heap.size:=by rw[P];exact(World.size_setCell w4 _ _).symm
    have Hs:(15:Int) - (x.size:Int)=((15 - x.size:Nat):Int):=(by omega);have He:=zI (Jkp B g (15 - x.size) 0 _ w5 Hd (by omega) (by rw[qac,qac,O,<- HN.out];simp;omega) (by omega));rw[J6l] at He;have Hn:=zI q;clear P bx5 Y Hd t Z BX4 y0 y1 O q;go_wp2_with fail
    refine He.out.mono ?_;rintro e w6 ⟨rfl,Ho,Hp⟩;go_wp2_with fail
    go_roundw
    case rel=>exact⟨k+1,by omega,by go_num,by rw[HF.out,<- qaj,<- Hg.out];exact⟨Ho,Hn.out.trans Hp⟩⟩
    case measure=>simp[intOf];omega
  · have Hq:n=k:=by omega
    have HT:=zI (show ss.take k=ss from by rw[<- Hq,<- hn,qa3]);rw[HT.out] at z;clear HT;go_wp2_with fail
    go_end0
    exact⟨rfl,z.at_,z.st⟩
theorem Jx7(l:List UInt8)(w:World):∃c w1,(convert 9 74 (.string (strOf l))).run Tryz.prog w= .ok (.slice (some ⟨w.heap.size,0,none⟩) l.length c) w1/\Below w.heap.size w w1/\w1.heap.size=w.heap.size+1/\
  ∀j (hj:j<l.length),w1.cell? ⟨w.heap.size,j,none⟩=some (.int .u8 (l[j].toNat:Int)):=by
 refine⟨_,_,run_bytes_of_string w 9 74 5 (strOf l) Tryz.underlying9 Tryz.underlying74 Tryz.underlying5,(qaa _ _).drew.alloc (qab _) _,by simp,fun j hj=> ?_⟩;have z:=World.cell?_alloc_mark w.drew (bytesRow (strOf l) (grownCap w (strOf l).size 0 5)) 5 ((bytesRow (strOf l) (grownCap w (strOf l).size 0 5)).size,(bytesRow (strOf l) (grownCap w (strOf l).size 0 5)).size+1) j;exact z.trans (bytesRow_at (strOf l) _ j (by simpa[strOf] using hj))
theorem Jx8{l:List UInt8}{k:Nat}(h:k<l.length)(hk:k<=7){x:UInt8}(hx:l[k]=x):bits BinOp.or IntKind.u64 (leN (l.take k):Int) (IntKind.u64.wrap (IntKind.u64.wrap (x.toNat:Int)*2 ^ (8*k)))=(leN (l.take (k+1)):Int):=by
 have z:=x.toNat_lt;have e1:l.take (k+1)=l.take k++[x]:=by rw[List.take_add_one,qbw h,hx];rfl
 have y:(l.take k).length=k:=by rw[qa4];omega
 have t:=Jol (l.take k);rw[y,Jrb] at t
 have s:(2:Nat) ^ (8*k)*256<=2 ^ 64:=by
  rw[show(256:Nat)=2 ^ 8 from rfl,<- Nat.pow_add];exact qby (by decide) (by omega)
 have w:x.toNat*2 ^ (8*k)<2 ^ 64:=by
  have v:x.toNat*2 ^ (8*k)<256*2 ^ (8*k):=Nat.mul_lt_mul_of_pos_right z (Nat.pow_pos (by decide));omega
 have e2:((x.toNat:Int)*2 ^ (8*k))=((x.toNat*2 ^ (8*k):Nat):Int):=by push_cast;rfl
 rw[wraps_u64 (x.toNat:Int) (by omega) (by omega),e2,wraps_u64 _ (by omega) (by exact_mod_cast w),(bits_nat .u64 64 (by decide) (fun n h0 v=>wraps_u64 n h0 v) _ _ (by omega) w).2,e1];have u:=J77 (l.take k) x;rw[y] at u;rw[u]
theorem Jnu(l:List UInt8)(w:World)(hl:l.length<=8):
  Calls Tryz.prog 226 #[.string (strOf l)] w fun e w'=>e= .returned (.int .u64 (leN l:Int))/\Below w.heap.size w w':=by
 obtain⟨c,w1,r,t,q,z⟩:=Jx7 l w;have p:=zI t;have v:=zI z;clear t z;go_enter Tryz.func226,Tryz.ntmps226;go_wp2_with fail
 go_loopw [3,9] (fun x i wr=>∃k:Nat,k<=l.length/\i= .int .i64 (k:Int)/\x= .int .u64 (leN (l.take k):Int)/\wr=w1) (fun _ i _=>l.length - (intOf i).toNat)
 case atStart=>exact⟨0,qak _,rfl,by simp[leN],rfl⟩
 case round=>
  obtain⟨k,n,rfl,rfl,rfl⟩:=hrel;by_cases y:k<l.length
  · have m:=v.out k y
    have o:=zI (Jx8 y (by omega) rfl);generalize l[k]=x at*;go_wp2_with fail
    go_roundw
    case rel=>exact⟨k+1,by omega,by go_num,by rw[o.out],trivial⟩
    case measure=>simp[intOf];omega
  · have u:l.length=k:=by omega
    have s:=zI (show l.take k=l from by rw[<- u,qa3]);rw[s.out];clear s;go_wp2_with fail
    go_ret;exact⟨rfl,p.out⟩
structure UnAt (w:World) (g:Nat) (l:List UInt8):Prop where
 bx:Bx w g 330 #[.int .i64 0,.string (strOf l)]
theorem UnAt.below{w w':World}{g:Nat}{l:List UInt8}(h:UnAt w g l)(hb:Below w.heap.size w w'):UnAt w' g l:=⟨h.bx.below hb⟩
theorem Jab(l:List UInt8):(strOf l).size=l.length:=by simp[strOf,ByteArray.size]
theorem Ja5{a b:ByteArray}(h:a.data.toList=b.data.toList):a=b:=by
 cases a;cases b
 simp at h;rw[h]
theorem Jem(a r:List UInt8):(strOf (a++r)).extract 0 a.length=strOf a:=by
 apply Ja5;simp[strOf,qbz,List.extract]
theorem Jiq(a r:List UInt8):(strOf (a++r)).extract a.length (a.length+r.length)=strOf r:=by
 apply Ja5;simp[strOf,qbz,List.extract]
theorem Jgg{w w1 w':World}{row:Option Nat}(h:w.grownBy w1 row)(hb:Below w1.heap.size w1 w'):w.grownBy w' row:=
 ⟨hb.os.trans h.os,hb.tape.trans h.tape,hb.output.trans h.output,qap h.size hb.size,fun k hk hn=>(hb.block k (qa6 hk h.size)).trans (h.block k hk hn)⟩
theorem Jh0{w w1 w':World}{row:Option Nat}(h:w.grownBy w1 row)(k:w1.grownBy w' row):w.grownBy w' row:=
 ⟨k.os.trans h.os,k.tape.trans h.tape,k.output.trans h.output,qap h.size k.size,fun i hi hn=>(k.block i (qa6 hi h.size) hn).trans (h.block i hi hn)⟩
theorem Jfx(g:Nat)(a r:List UInt8)(w:World)(h:UnAt w g (a++r))(_hl:a.length+r.length<=1000000):
  Calls Tryz.prog 227 #[.pointer (some ⟨g,0,none⟩),.int .i64 (a.length:Int)] w fun e w'=>e= .returned (.string (strOf a))/\UnAt w' g r/\w.grownBy w' (some g):=by
 have e0:=h.bx.at_ 0 (v:= .int .i64 0) rfl;have e1:=h.bx.at_ 1 (v:= .string (strOf (a++r))) rfl;have e2:=h.bx.free 1;have z:=zI h.bx;have y:(strOf (a++r)).size=a.length+r.length:=by rw[Jab,qac]
 clear h;go_enter Tryz.func227,Tryz.ntmps227;go_wp2_with fail
 go_ret;rw[Jem,Jiq];exact⟨rfl,⟨z.out.set 1 (.string (strOf r))⟩,Jal w g 1 _⟩
theorem Jh1(g v:Nat)(r:List UInt8)(w:World)(h:UnAt w g (le 8 v++r))(hv:v<18446744073709551616)(hl:r.length<=900000):
  Calls Tryz.prog 228 #[.pointer (some ⟨g,0,none⟩)] w fun e w'=>e= .returned (.int .u64 (v:Int))/\UnAt w' g r/\w.grownBy w' (some g):=by
 have z:=zI (Jfx g (le 8 v) r w h (by rw[Ja0];omega));rw[Ja0] at z;have y:=zI (fun W=>Jnu (le 8 v) W (by rw[Ja0];omega));rw[Jdb (show v<256 ^ 8 from hv)] at y;clear h;go_enter Tryz.func228,Tryz.ntmps228;go_wp2_with fail
 refine z.out.mono ?_;rintro e w1 ⟨rfl,u,t⟩;go_wp2_with fail
 refine(y.out w1).mono ?_;rintro e w2 ⟨rfl,x⟩;go_wp2_with fail
 go_ret;exact⟨rfl,u.below x,Jgg t x⟩
theorem J23(v:Nat)(h:v<18446744073709551616):wrap64 (v:Int)=i64 v:=by
 unfold i64 wrap64;split<;>omega
theorem Jkr(g:Nat)(n:Int)(r:List UInt8)(w:World)(h:UnAt w g (le 8 (u64 n)++r))(hn: -9223372036854775808<=n/\n<=9223372036854775807)(hl:r.length<=900000):
  Calls Tryz.prog 141 #[.pointer (some ⟨g,0,none⟩)] w fun e w'=>e= .returned (.int .i64 n)/\UnAt w' g r/\w.grownBy w' (some g):=by
 have z:=zI (Jh1 g (u64 n) r w h (J4y n) hl);have y:=zI (show wrap64 ((u64 n:Nat):Int)=n from by rw[J23 _ (J4y n),J5g hn]);clear h;generalize u64 n=v at*;go_enter Tryz.func141,Tryz.ntmps141;go_wp2_with fail
 refine z.out.mono ?_;rintro e w1 ⟨rfl,x,u⟩;go_wp2_with fail
 go_ret;exact⟨by rw[<- y.out];rfl,x,u⟩
theorem UnAt.e0{w:World}{g:Nat}{l:List UInt8}(h:UnAt w g l):w.cell? ⟨g,0,none⟩=some (.int .i64 0)/\w.frozen? ⟨g,0,none⟩=false:=⟨h.bx.at_ 0 rfl,h.bx.free 0⟩
theorem J24(g:Nat)(l:List UInt8)(w:World)(h:UnAt w g l):
  Calls Tryz.prog 224 #[.pointer (some ⟨g,0,none⟩),.int .i64 0] w fun e w'=>e= .returned (.bool false)/\UnAt w' g l/\w.grownBy w' (some g):=by
 obtain⟨e0,e1⟩:=h.e0;have z:UnAt (w.setCell ⟨g,0,none⟩ (.int .i64 0)) g l:=⟨h.bx.set 0 (.int .i64 0)⟩;have e2:=z.e0.1;have y:w.grownBy (w.setCell ⟨g,0,none⟩ (.int .i64 0)) (some g):=Jal w g 0 _;clear h;go_enter Tryz.func224,Tryz.ntmps224;go_wp2;go_ret;exact⟨rfl,z,y⟩
structure UnIn (w w':World) (g:Nat) (l:List UInt8):Prop where
 at_:UnAt w' g l
 st:w.grownBy w' (some g)
theorem UnIn.drew{w w':World}{g:Nat}{l:List UInt8}(h:UnIn w w' g l):UnIn w w'.drew g l:=⟨h.at_.below (qaa _ _).drew,Jgg h.st (qaa _ _).drew⟩
theorem UnIn.next{w w1 w':World}{g:Nat}{l l':List UInt8}(h:UnIn w w1 g l)(h2:UnAt w' g l')(h3:w1.grownBy w' (some g)):UnIn w w' g l':=⟨h2,Jh0 h.st h3⟩
theorem Jcs(g size v:Nat)(r:List UInt8)(w:World)(h:UnAt w g (le size v++r))(hs:Jc1 size)(hv:v<256 ^ size)(hl:r.length<=900000):
  Calls Tryz.prog 140 #[.pointer (some ⟨g,0,none⟩),.int .i64 (size:Int)] w fun e w'=>e= .returned (.int .i64 (v:Int))/\UnAt w' g r/\w.grownBy w' (some g):=by
 have s:=zI (fun W=>Jry size 0 W hs (Nat.pow_pos (by decide)));have q:=zI (fun W hW=>J24 g (le size v++r) W hW);have j:size<=4:=by rcases hs with rfl | rfl | rfl<;>omega
 have o:=zI (fun W hW=>Jfx g (le size v) r W hW (by rw[Ja0];omega));rw[Ja0] at o;have n:=zI (fun W=>Jnu (le size v) W (by rw[Ja0];omega));rw[Jdb hv] at n;have m:=hs.lt hv;have l:=zI (show wrap64 (v:Int)=(v:Int) from by unfold wrap64;omega);have x:UnIn w w g (le size v++r):=⟨h,World.grownBy.refl _ _⟩;have z:=x.drew;clear h x;go_enter Tryz.func140,Tryz.ntmps140;go_upto_region 1 with fail
 go_region_held3 (fun w'=>UnIn w w' g (le size v++r))
  (first
    | assumption
    | exact z
    | exact UnIn.drew (by assumption))
  (first
    | (go_at_call 225;refine(s.out _).mono ?_;rintro e wf ⟨rfl,p⟩;subst p)
    | (go_at_call 224;refine(q.out _ (UnIn.at_ (by assumption))).mono ?_;rintro e wq ⟨rfl,u,t⟩;have y:=UnIn.next (by assumption) u t))
 have i:=zI y;clear z u t;go_wp2_with fail
 refine(o.out _ y.at_).mono ?_;rintro e w1 ⟨rfl,f,d⟩;go_wp2_with fail
 refine(n.out w1).mono ?_;rintro e w2 ⟨rfl,k⟩;go_wp2_with fail
 go_ret;exact⟨by first | rfl | (rw[<- l.out];rfl) | (show Ending.returned (Value.int .i64 (wrap64 _))=_;rw[l.out]),f.below k,Jgg (Jh0 i.out.st d) k⟩
theorem Jrz(g:Nat)(l:List UInt8)(w:World)(h:UnAt w g l):
  Calls Tryz.prog 278 #[.pointer (some ⟨g,0,none⟩)] w fun e w'=>e= .returned (.int .i64 0)/\w=w':=by
 obtain⟨e0,_⟩:=h.e0;clear h;go_enter Tryz.func278,Tryz.ntmps278;go_wp2;go_ret;exact⟨rfl,rfl⟩
theorem Jx9(g:Nat)(l:List UInt8)(w:World)(h:UnAt w g l):
  Calls Tryz.prog 231 #[.pointer (some ⟨g,0,none⟩)] w fun e w'=>e= .returned (.int .i64 (l.length:Int))/\w=w':=by
 have e1:=h.bx.at_ 1 (v:= .string (strOf l)) rfl;have z:=Jab l;clear h;go_enter Tryz.func231,Tryz.ntmps231;go_wp2;go_ret;exact⟨rfl,rfl⟩
theorem J25(g:Nat)(l:List UInt8)(w:World)(h:UnAt w g l)(hl:l.length<=900000):
  Calls Tryz.prog 143 #[.pointer (some ⟨g,0,none⟩)] w fun e w'=>e= .returned (.string (strOf l))/\UnAt w' g []/\w.grownBy w' (some g):=by
 have z:=zI (Jfx g l [] w (by rw[qai];exact h) (by simp;omega));have y:=zI (Jx9 g l w h);clear h;go_enter Tryz.func143,Tryz.ntmps143;go_wp2_with fail
 refine y.out.mono ?_;rintro e w1 ⟨rfl,x⟩;subst x;go_wp2_with fail
 refine z.out.mono ?_;rintro e w2 ⟨rfl,v,u⟩;go_wp2_with fail
 go_ret;exact⟨rfl,v,u⟩
theorem wrap_i64(n:Int)(h: -9223372036854775808<=n/\n<=9223372036854775807):IntKind.i64.wrap n=n:=by
 simp[IntKind.wrap,IntKind.bits,IntKind.signed];split<;>omega
theorem Jpr(g:Nat)(s r:List UInt8)(w:World)(h:UnAt w g (txB s++r))(hs:s.length<=60000)(hl:r.length<=800000):
  Calls Tryz.prog 277 #[.pointer (some ⟨g,0,none⟩)] w fun e w'=>e= .returned (.string (strOf s))/\UnAt w' g r/\w.grownBy w' (some g):=by
 have p:=h.bx;have a:txB s++r=le 2 s.length++(s++r):=by unfold txB;rw[qaj]
 rw[a] at h p;have o:(strOf (le 2 s.length++(s++r))).size=2+(s.length+r.length):=by rw[Jab,qac,qac,Ja0]
 have J:(strOf (le 2 s.length++(s++r))).extract 0 2=strOf (le 2 s.length):=by
  have:=Jem (le 2 s.length) (s++r)
  rwa [Ja0] at this
 have n:=zI (fun W hW=>Jcs g 2 s.length (s++r) W hW (.inr (.inl rfl)) (by omega) (by rw[qac];omega));have U:=zI (fun W hW=>Jfx g s r W hW (by omega));have Z:=zI (fun W=>Jnu (le 2 s.length) W (by rw[Ja0];omega));rw[Jdb (show s.length<256 ^ 2 by omega)] at Z;have T:=zI (show wrap64 (s.length:Int)=(s.length:Int) from by unfold wrap64;omega);have e0:=p.at_ 0 (v:= .int .i64 0) rfl;have R:=zI p;have P:=zI h;generalize strOf (le 2 s.length++(s++r))=S at*;have m:=zI (show ∀w',Below w.heap.size w w' ->w'.cell? ⟨g,1,none⟩=some (.string S) from fun w' hb=>(R.out.below hb).at_ 1 rfl);have z:=(qaa w.heap.size w).drew;have l:=And.intro z (m.out _ z);obtain⟨N,Y⟩:∃N,N=2+(s.length+r.length):=⟨_,rfl⟩;rw[<- Y] at o;have O:decide ((N:Int)<2)=false:=qat (by omega);have k:=zI (show decide (IntKind.i64.wrap ((N:Int) - 2)<IntKind.i64.wrap (s.length:Int))=false from qat (by rw[wrap_i64 _ (by omega),wrap_i64 _ (by omega)];omega));have M:decide ((N:Int) - 2<(s.length:Int))=false:=qat (by omega);have V:=T.out;have L:2<=N:=by omega
 have K:(2:Int)<=(N:Int):=by omega
 clear h p a Y;go_enter Tryz.func277,Tryz.ntmps277;go_upto_region 3 with fail
 go_region_held3 (fun w'=>Below w.heap.size w w'/\w'.cell? ⟨g,1,none⟩=some (.string S))
  (first
    | assumption
    | exact l
    | (go_split_ands;exact And.intro (by assumption) (m.out _ (by assumption)))
    | (go_split_ands;exact And.intro (Below.trans (by assumption) (Below.mono y (Below.size (by assumption)))) (m.out _ (Below.trans (by assumption) (Below.mono y (Below.size (by assumption)))))))
  (first
    | (go_at_call 226;go_split_ands;refine(Z.out _).mono ?_;rintro e w7 ⟨rfl,y⟩))
 rw[k.out];go_split_ands;have x:Below w.heap.size w w7:=by assumption
 have j:=zI (P.out.below x);have u:=zI (n.out w7 j.out);have i:=zI x;go_wp2_with fail
 refine u.out.mono ?_;rintro e w8 ⟨rfl,t,q⟩;have f:=zI (U.out w8 t);have d:=zI q;clear t q;go_wp2_with fail
 refine f.out.mono ?_;rintro e w9 ⟨rfl,c,b⟩;go_wp2_with fail
 go_ret;exact⟨rfl,c,Jh0 (Jsy i.out (some g)) (Jh0 d.out b)⟩
theorem Jcq(s:ByteArray)(w:World)(hs:s.size<=1000000):Calls Tryz.prog 82 #[.string s] w fun e w'=>e= .returned (.string s)/\Below w.heap.size w w':=by
 have H:=zI (Tryz.stringslite_Clone s w (by omega));go_enter Tryz.func82,Tryz.ntmps82;go_wp2_with fail
 refine H.out.mono ?_;rintro e w1 ⟨rfl,z⟩;go_wp2_with fail
 go_ret;exact⟨rfl,z⟩
theorem Jps(l:List UInt8)(w:World)(hl:l.length<=900000):Calls Tryz.prog 139 #[.string (strOf l)] w fun e w'=>∃g,e= .returned (.pointer (some ⟨g,0,none⟩))/\w.heap.size<=g/\UnAt w' g l/\Below w.heap.size w w':=by
 have H:=zI (Jcq (strOf l) w (by rw[Jab];omega));go_enter Tryz.func139,Tryz.ntmps139;go_wp2_with fail
 refine H.out.mono ?_;rintro e w1 ⟨rfl,z⟩;have y:=z.alloc z.size (.cells #[.int .i64 0,.string (strOf l)] 330);have v:=Bx.new w1 330 #[.int .i64 0,.string (strOf l)];have x:=z.size;go_wp2_with fail
 go_ret;exact⟨w1.heap.size,rfl,x,⟨v⟩,y⟩
theorem Jve(k:Nat):Lib.trimB (strOf (zeros k)).data.toList 0=[]:=by
 have y:Lib.trimLeftB (zeros k) 0=[]:=by unfold Lib.trimLeftB zeros;simp
 have z:Lib.trimRightB (zeros k) 0=[]:=by unfold Lib.trimRightB zeros;simp
 show Lib.trimLeftB (Lib.trimRightB (zeros k) 0) 0=[];rw[z];rfl
theorem J6m(s:List UInt8)(hs:s.length<=15)(hp:0<(strOf (nmB s)).size):wrap64 (((strOf (nmB s))[0]'hp).toNat:Int)=(s.length:Int):=by
 have:(strOf (nmB s))[0]'hp=UInt8.ofNat s.length:=rfl;rw[this,Jsq];unfold wrap64;omega
theorem J6n(s:List UInt8):(strOf (nmB s)).extract 1 (1+s.length)=strOf s:=by
 apply Ja5;simp[strOf,nmB,qbz,List.extract]
theorem J6o(s:List UInt8)(hs:s.length<=15):(strOf (nmB s)).extract (1+s.length) 16=strOf (zeros (15 - s.length)):=by
 apply Ja5
 have h:(nmB s).drop (1+s.length)=zeros (15 - s.length):=by
  unfold nmB;rw[Nat.add_comm,List.drop_succ_cons,List.drop_left]
 simp[strOf,qbz,List.extract,h];simp[zeros];omega
theorem Jya(g:Nat)(s r:List UInt8)(w:World)(h:UnAt w g (nmB s++r))(hs:s.length<=15)(hl:r.length<=800000):
  Calls Tryz.prog 229 #[.pointer (some ⟨g,0,none⟩)] w fun e w'=>e= .returned (.string (strOf s))/\UnAt w' g r/\w.grownBy w' (some g):=by
 have y:=zI (Jfx g (nmB s) r w h (by rw[Jfw hs];omega));rw[Jfw hs] at y;have q:(strOf (nmB s)).size=16:=by rw[Jab,Jfw hs]
 have a:=J6m s hs;have p:=J6n s;have o:=J6o s hs;have z:=zI (fun W=>Tryz.strings_Trim_one (strOf (zeros (15 - s.length))) 0 (by decide) W (by rw[Jab,Jch];omega));rw[Jve] at z;have m:(strOf (nmB s)).toList.isEmpty=false:=by rw[ByteArray.toList_eq];rfl
 generalize hn:s.length=n at*;generalize strOf (zeros (15 - n))=Z at*;generalize strOf s=R at*;have l:wrap64 (1+(n:Int))=1+(n:Int):=by unfold wrap64;omega
 have Y:decide ((15:Int)<(n:Int))=false:=qat (by omega);have k:(1+(n:Int)).toNat=1+n:=by omega
 have j:1+n<=16:=by omega
 have i:(0:Int)<=1+(n:Int):=by omega
 have f:1+(n:Int)<=16:=by omega
 have d:(1:Int)<=1+(n:Int):=by omega
 clear h;go_enter Tryz.func229,Tryz.ntmps229;go_wp2_with fail
 refine y.out.mono ?_;rintro e w1 ⟨rfl,x,v⟩;generalize strOf (nmB s)=S at*;have c:=zI x;have b:=zI v;clear x v y;go_wp2_with fail
 refine(z.out w1).mono ?_;rintro e w2 ⟨rfl,u⟩
 have t:Below w1.heap.size w1 w2:=by
  rcases u with rfl | rfl
  · exact qaa _ _
  · exact(qaa _ _).drew
 clear u;go_wp2_with fail
 go_ret;exact⟨rfl,c.out.below t,Jgg b.out t⟩
def Jtq (x:Int):Int:=if bits BinOp.and IntKind.u32 x 1=1 then bits BinOp.xor IntKind.u32 (x / 2) 3945912366 else x / 2
def Jg9:Nat ->Int ->Int
 | 0,x=>x
 | n+1,x=>Jtq (Jg9 n x)
def Jnv (x:Int) (c:UInt8):Int:=Jg9 8 (bits BinOp.xor IntKind.u32 x ((c.toNat:Int) % 4294967296))
def Jbn (x:Int) (l:List UInt8):Int:=l.foldl Jnv x
def Jfg (l:List UInt8):Int:=bits BinOp.xor IntKind.u32 (Jbn (bits BinOp.xor IntKind.u32 0 4294967295) l) 4294967295
theorem Jpt(x:Int)(l:List UInt8)(c:UInt8):Jbn x (l++[c])=Jnv (Jbn x l) c:=by simp[Jbn]
theorem Jvf(g:Nat)(A:Option Addr)(c:Nat)(l:List UInt8)(w:World)(h:Bx w g 460 #[.int .u32 0])(hA:Sl w A [.string (strOf l)])(hl:l.length<=1000000):
  Calls Tryz.prog 381 #[.pointer (some ⟨g,0,none⟩),.slice A 1 c] w fun e w'=>e= .returned (.tuple #[])/\Bx w' g 460 #[.int .u32 (Jfg l)]/\w.grownBy w' (some g):=by
 have e0:=h.at_ 0 (v:= .int .u32 0) rfl;have e1:=h.free 0;have V:=zI h;obtain⟨b,off,rfl,_,a⟩:=hA.get (j:=0) (by simp);have U:w.cell? ⟨b,off,none⟩=some (.string (strOf l)):=by simpa using a
 have T:=Jab l;obtain⟨x0,s⟩:∃x0,x0=bits BinOp.xor IntKind.u32 0 4294967295:=⟨_,rfl⟩;have q:=zI s;have Z:=s.symm;clear h hA a s;go_enter Tryz.func381,Tryz.ntmps381;go_wp2_with fail
 go_loopw [4,18] (fun x i wr=>wr=w/\(i= .int .i64 0/\x= .int .u32 x0\/i= .int .i64 1/\x= .int .u32 (Jbn x0 l))) (fun _ i _=>1 - (intOf i).toNat)
 case atStart=>first | exact⟨rfl,.inl ⟨rfl,rfl⟩⟩ | exact⟨rfl,.inl ⟨rfl,by rw[q.out];rfl⟩⟩
 case round =>
  obtain⟨rfl,⟨rfl,rfl⟩ | ⟨rfl,rfl⟩⟩:=hrel
  · go_wp2_with fail
    go_loopw [4,24] (fun x i wr2=>wr2=wr/\∃k:Nat,k<=l.length/\i= .int .i64 (k:Int)/\x= .int .u32 (Jbn x0 (l.take k))) (fun _ i _=>l.length - (intOf i).toNat)
    case atStart=>exact⟨rfl,0,qak _,rfl,rfl⟩
    case round=>
     obtain⟨rfl,k,M,rfl,rfl⟩:=hrel;by_cases p:k<l.length
     · have S:=zI (show Jbn x0 (l.take (k+1))=Jnv (Jbn x0 (l.take k)) l[k] from by
        have e:l.take (k+1)=l.take k++[l[k]]:=by rw[List.take_add_one,qbw p];rfl
        rw[e,Jpt])
       have o:k<(strOf l).size:=by rw[Jab];exact p
       have R:(strOf l)[k]'o=l[k]:=rfl;generalize Jbn x0 (l.take k)=y at*;generalize l[k]=cb at*;go_wp2_with fail
       obtain⟨y0,r⟩:∃y0,y0=bits BinOp.xor IntKind.u32 y ((cb.toNat:Int) % 4294967296):=⟨_,rfl⟩;have n:=zI (show Jnv y cb=Jg9 8 y0 from by rw[r];rfl);rw[<- r];clear r;go_loopw [4,33] (fun x i wr3=>wr3=wr/\∃t:Nat,t<=8/\i= .int .i64 (t:Int)/\x= .int .u32 (Jg9 t y0)) (fun _ i _=>8 - (intOf i).toNat)
       case atStart=>exact⟨rfl,0,by omega,rfl,rfl⟩
       case round=>
        obtain⟨rfl,t,L,rfl,rfl⟩:=hrel;by_cases P:t<8
        · have Y:=zI (show Jg9 (t+1) y0=Jtq (Jg9 t y0) from rfl)
          generalize Jg9 t y0=z at*;by_cases u:bits BinOp.and IntKind.u32 z 1=1
          · have m:=zI (show Jtq z=bits BinOp.xor IntKind.u32 (z / 2) 3945912366 from if_pos u)
            go_wp2_with fail
            go_roundw
            case rel=>exact⟨by trivial,t+1,by omega,by go_num,by rw[Y.out,m.out]⟩
            case measure=>simp[intOf];omega
          · have m:=zI (show Jtq z=z / 2 from if_neg u)
            go_wp2_with fail
            go_roundw
            case rel=>exact⟨by trivial,t+1,by omega,by go_num,by rw[Y.out,m.out]⟩
            case measure=>simp[intOf];omega
        · have f:t=8:=by omega
          subst f;rw[<- n.out,<- S.out];go_wp2_with fail
          go_roundw
          case rel=>exact⟨by trivial,k+1,by omega,by go_num,rfl⟩
          case measure=>simp[intOf];omega
     · have d:l.length=k:=by omega
       have W:=zI (show l.take k=l from by rw[<- d,qa3]);rw[W.out];clear W;go_wp2_with fail
       go_roundw
       case rel=>exact⟨by trivial,.inr ⟨rfl,rfl⟩⟩
       case measure=>simp[intOf]
  · have O:=zI (show Jfg l=bits BinOp.xor IntKind.u32 (Jbn x0 l) 4294967295 from by rw[q.out];rfl)
    generalize Jbn x0 l=y at*;have bx:=V.out.set 0 (.int .u32 (bits BinOp.xor IntKind.u32 y 4294967295));have N:=Jal wr g 0 (.int .u32 (bits BinOp.xor IntKind.u32 y 4294967295));go_wp2_with fail
    go_end0
    rw[O.out];exact⟨rfl,bx,N⟩
theorem J26(op:BinOp)(a b:Int):0<=bits op IntKind.u32 a b/\bits op IntKind.u32 a b<4294967296:=by
 obtain⟨n,h⟩:∃n,bits op IntKind.u32 a b=IntKind.u32.wrap n:=⟨_,rfl⟩;rw[h,IntKind.wrap_u32];omega
theorem J49(l:List UInt8):0<=Jfg l/\Jfg l<4294967296:=J26 _ _ _
def crcB (l:List UInt8):List UInt8:=le 4 (Jfg l).toNat
@[simp] theorem J85(l:List UInt8):(crcB l).length=4:=Ja0 _ _
theorem Jvg(g:Nat)(x:Int)(w:World)(h:Bx w g 460 #[.int .u32 x]):
  Calls Tryz.prog 382 #[.pointer (some ⟨g,0,none⟩)] w fun e w'=>e= .returned (.int .u32 x)/\w=w':=by
 have e0:=h.at_ 0 (v:= .int .u32 x) rfl;clear h;go_enter Tryz.func382,Tryz.ntmps382;go_wp2_with fail
 go_ret;exact⟨rfl,rfl⟩
theorem Jpu(A:Option Addr)(c:Nat)(l:List UInt8)(w:World)(hA:Sl w A [.string (strOf l)])(hl:l.length<=1000000):
  Calls Tryz.prog 324 #[.slice A 1 c] w fun e w'=>e= .returned (.int .u32 (Jfg l))/\Below w.heap.size w w':=by
 have z:=(qaa w.heap.size w).alloc (qab _) (.cells #[.int .u32 0] 460);have y:=zI z;have x:=zI (Jvf w.heap.size A c l _ (Bx.new w 460 #[.int .u32 0]) (hA.below z) hl);clear hA z;go_enter Tryz.func324,Tryz.ntmps324;go_wp2_with fail
 refine x.out.mono ?_;rintro e w1 ⟨rfl,v,u⟩;have t:=zI (Jvg _ _ w1 v);have s:=zI u;clear v u;go_wp2_with fail
 refine t.out.mono ?_;rintro e w2 ⟨rfl,r⟩;subst r;go_wp2_with fail
 go_ret;exact⟨rfl,y.out.grown s.out y.out.size (fun k e=>by cases e;exact qab _)⟩
theorem Jtr(x:Nat)(w:World)(hx:x<4294967296):
  Calls Tryz.prog 323 #[.int .u32 (x:Int)] w fun e w'=>e= .returned (.string (strOf (le 4 x)))/\Below w.heap.size w w':=by
 have z:=(qaa w.heap.size w).alloc (qab _) (.cells #[.int .i64 0,.slice none 0 0] 281);have P0:=PkAt.new w w.heap.size (qab _);obtain⟨w1,y⟩:∃w1,w1=w.alloc (.cells #[.int .i64 0,.slice none 0 0] 281):=⟨_,rfl⟩;have r:w1.heap.size=w.heap.size+1:=by rw[y];simp
 have q:=zI y;rw[<- y] at z P0;have u:=(qaa w1.heap.size w1).alloc (qab _) (.cells #[.int .i64 (x:Int)] 3);have t:=zI (Jfv w.heap.size w.heap.size 4 (some ⟨w1.heap.size,0,none⟩) 1 1 [x] [] (w1.alloc (.cells #[.int .i64 (x:Int)] 3)) (P0.below u) (.inr (.inr rfl)) (fun v hv=>by rw[qag.1 hv];exact hx) (Jg8.new _ (by decide) (by omega)) (Sl.new w1 3 w1.heap.size [.int .i64 (x:Int)] #[.int .i64 (x:Int)] rfl rfl) rfl (by simp) (qap z.size u.size));have p:=zI (z.trans (u.mono z.size));have k:wrap64 (x:Int)=(x:Int):=by unfold wrap64;omega
 clear P0 z u y;go_enter Tryz.func323,Tryz.ntmps323;go_wp2_with fail
 rw[<- q.out,<- r];refine t.out.mono ?_;rintro e w2 ⟨rfl,m,s⟩;have l:=zI (Jnt _ _ _ w2 m);have o:=zI (s.below (B':=w.heap.size) (qab _) (qab _) (by simp;omega));have n:=zI (show[]++[x].flatMap (le 4)=le 4 x from by simp);rw[n.out] at l;clear m s t;go_wp2_with fail
 refine l.out.mono ?_;rintro e w3 ⟨rfl,j⟩;subst j;go_wp2_with fail
 go_ret;exact⟨rfl,p.out.trans o.out⟩
theorem Jvh(l:List UInt8)(w:World)(hl:l.length<=1000000):
  Calls Tryz.prog 326 #[.string (strOf l)] w fun e w'=>e= .returned (.string (strOf (l++crcB l)))/\Below w.heap.size w w':=by
 have y:=(qaa w.heap.size w).alloc (qab _) (.cells #[.string (strOf l)] 9);have x:=zI y;have u:=zI (Jpu (some ⟨w.heap.size,0,none⟩) 1 l _ (Sl.new w 9 w.heap.size [.string (strOf l)] #[.string (strOf l)] rfl rfl) hl);have t:=J49 l;have p:=zI (show Jfg l=((Jfg l).toNat:Int) from by omega);have q:=zI (fun W=>Jtr (Jfg l).toNat W (by omega));rw[<- p.out] at q;have o:(strOf l).size+(strOf (le 4 (Jfg l).toNat)).size<=9223372036854775807:=by rw[Jab,Jab,Ja0];omega
 have s:=zI (show strOf l++strOf (le 4 (Jfg l).toNat)=strOf (l++crcB l) from by apply Ja5;simp[strOf,crcB]);clear y t;go_enter Tryz.func326,Tryz.ntmps326;go_wp2_with fail
 refine u.out.mono ?_;rintro e w2 ⟨rfl,z⟩;go_wp2_with fail
 refine(q.out w2).mono ?_;rintro e w3 ⟨rfl,v⟩;have r:=zI (x.out.trans ((z.trans (v.mono z.size)).mono x.out.size));clear z v;go_wp2_with fail
 go_ret;exact⟨by rw[<- s.out];rfl,r.out⟩
noncomputable def Jyb (l t:List UInt8):Value:=if t=crcB l then .tuple #[.string (strOf l),.int .i64 0] else .tuple #[.string ByteArray.empty,.int .i64 7]
theorem Jl8(l:List UInt8):(strOf l).toList=l:=by rw[ByteArray.toList_eq];rfl
theorem Jpv(l t:List UInt8)(w:World)(ht:t.length=4)(hl:l.length<=900000):
  Calls Tryz.prog 275 #[.string (strOf (l++t))] w fun e w'=>e= .returned (Jyb l t)/\Below w.heap.size w w':=by
 have p:(strOf (l++t)).size=l.length+4:=by rw[Jab,qac,ht]
 have z:(strOf (l++t)).extract 0 l.length=strOf l:=Jem l t;have v:(strOf (l++t)).extract l.length (l.length+4)=strOf t:=by rw[<- ht];exact Jiq l t
 have o:=J49 l;have d:=zI (show Jfg l=((Jfg l).toNat:Int) from by omega);have c:=zI (fun W=>Jtr (Jfg l).toNat W (by omega));rw[<- d.out] at c;have m:=zI (fun W A hA=>Jpu A 1 l W hA (by omega));have k:=zI (fun W=>Jcq (strOf l) W (by rw[Jab];omega));generalize strOf (l++t)=S at*;obtain⟨n,b⟩:∃n,n=l.length:=⟨_,rfl⟩;rw[<- b] at p z v hl;have a:((n:Int)+4 - 4)=(n:Int):=by omega
 have V:decide ((n:Int)<0)=false:=qat (by omega);have Z:n<=n+4:=by omega
 have Y:(n:Int)<=(n:Int)+4:=by omega
 have j:=(qaa w.heap.size w).drew;have u:=zI ((Sl.new w 9 w.heap.size [.string (strOf l)] #[.string (strOf l)] rfl rfl).below (qaa _ _).drew);have i:=zI z;clear b o d;go_enter Tryz.func275,Tryz.ntmps275;go_upto_region 4 with fail
 go_region_held3 (fun w'=>Below w.heap.size w w')
  (first
    | assumption
    | exact j
    | exact Below.drew (by assumption)
    | exact qb0 (by assumption) (Below.size (by assumption)) _
    | exact Below.trans (by assumption) (Below.mono s (Below.size (by assumption)))
    | exact Below.trans (by assumption) (Below.mono r (Below.size (by assumption))))
  (first
    | (go_at_call 324;refine(m.out _ _ u.out).mono ?_;rintro e w7 ⟨rfl,s⟩)
    | (go_at_call 323;refine(c.out _).mono ?_;rintro e w8 ⟨rfl,r⟩))
 have y:Below w.heap.size w w8:=by assumption
 have x:=zI y;have q:=zI (k.out w8);clear y s r z v;by_cases e:t=crcB l
 · have g:=zI (show((strOf t).toList==(strOf (le 4 (Jfg l).toNat)).toList)=true from by rw[e];exact beq_self_eq_true _)
   have f:=zI (show Jyb l t= .tuple #[.string (strOf l),.int .i64 0] from if_pos e);have z:S.extract 0 n=strOf l:=i.out;rw[g.out];go_wp2_with fail
   refine q.out.mono ?_;rintro e w9 ⟨rfl,y⟩;go_wp2_with fail
   go_ret2;exact⟨by rw[f.out];rfl,x.out.trans (y.mono x.out.size)⟩
 · have g:=zI (show((strOf t).toList==(strOf (le 4 (Jfg l).toNat)).toList)=false from by
    rw[qba];intro h;exact e (by rw[Jl8,Jl8] at h;exact h))
   have f:=zI (show Jyb l t= .tuple #[.string ByteArray.empty,.int .i64 7] from if_neg e);rw[g.out];go_wp2_with fail
   go_ret2;exact⟨by rw[f.out];rfl,x.out⟩
structure LayW (w0 w:World) (g:Nat) (l:List UInt8):Prop where
 at_:PkAt w w0.heap.size g l
 below:Below w0.heap.size w0 w
section
variable {w0 w w':World} {g:Nat} {l l':List UInt8}
theorem LayW.new(w0:World):LayW w0 (w0.alloc (.cells #[.int .i64 0,.slice none 0 0] 281)) w0.heap.size []:=⟨PkAt.new w0 _ (qab _),(qaa _ _).alloc (qab _) _⟩
theorem LayW.then_below(h:LayW w0 w g l)(hb:Below w.heap.size w w'):LayW w0 w' g l:=⟨h.at_.below hb,h.below.trans (hb.mono h.below.size)⟩
theorem LayW.lt(h:LayW w0 w g l):g<w.heap.size:=h.at_.lt
theorem LayW.size(h:LayW w0 w g l):w0.heap.size<=w.heap.size:=h.below.size
theorem LayW.bx{b:Nat}{T:TypeId}{cs:Array Value}(h:LayW w0 w g l)(hx:Bx w0 b T cs):Bx w b T cs:=hx.below h.below
theorem LayW.sl{A:Option Addr}{xs:List Value}(h:LayW w0 w g l)(hx:Sl w0 A xs):Sl w A xs:=hx.below h.below
theorem LayW.st{w1:World}(h:LayW w0 w g l)(hb:Below w.heap.size w w1)(hp:PkAt w' w0.heap.size g l')(hs:PkSt w0.heap.size g w1 w'):LayW w0 w' g l':=
 ⟨hp,(h.below.trans (hb.mono h.below.size)).trans (hs.below (qab _) h.at_.low (qap h.below.size hb.size))⟩
theorem LayW.arg(h:LayW w0 w g l)(T:TypeId)(cs:Array Value)(hT:T≠5):Jg8 (w.alloc (.cells cs T)) w0.heap.size g (some ⟨w.heap.size,0,none⟩):=Jg8.new cs hT h.lt
theorem LayW.old{A:Option Addr}{xs:List Value}(h:LayW w0 w g l)(hx:Sl w0 A xs)(hne:xs≠[]):Jg8 w w0.heap.size g A:=by
 obtain⟨b,off,rfl,z,_⟩:=hx.at_ hne;refine⟨fun a e=> ?_⟩;cases e
 have:=h.below.size;have:=h.at_.low;exact⟨by show b<_;omega,by show b≠g;omega,.inl z⟩
theorem LayW.words(h:LayW w0 w g l)(vs:List Nat)(n c:Nat)(cs:Array Value)(hcs:cs.toList=vs.map fun v:Nat=>Value.int .u64 (v:Int))(hn:vs.length=n)(hl:l.length+8*n<=900000):
  Calls Tryz.prog 260 #[.pointer (some ⟨g,0,none⟩),.slice (some ⟨w.heap.size,0,none⟩) n c] (w.alloc (.cells cs 55)) fun e w'=>e= .returned (.tuple #[])/\LayW w0 w' g (l++vs.flatMap (le 8)):=by
 have z:=(qaa w.heap.size w).alloc (qab _) (.cells cs 55);refine(Jhz w0.heap.size g _ n c vs l _ (h.at_.below z) (h.arg _ cs (by decide)) (Sl.new w _ _ _ cs rfl hcs) hn hl (qap h.size z.size)).mono ?_;rintro e w' ⟨rfl,y,x⟩;exact⟨rfl,h.st z y x⟩
theorem LayW.ints(h:LayW w0 w g l)(vs:List Int)(n c:Nat)(cs:Array Value)(hcs:cs.toList=vs.map (Value.int .i64))(hn:vs.length=n)(hl:l.length+8*n<=800000):
  Calls Tryz.prog 176 #[.pointer (some ⟨g,0,none⟩),.slice (some ⟨w.heap.size,0,none⟩) n c] (w.alloc (.cells cs 3)) fun e w'=>e= .returned (.tuple #[])/\LayW w0 w' g (l++vs.flatMap fun v=>le 8 (u64 v)):=by
 have z:=(qaa w.heap.size w).alloc (qab _) (.cells cs 3);refine(Jns w0.heap.size g _ n c vs l _ (h.at_.below z) (h.arg _ cs (by decide)) (Sl.new w _ _ _ cs rfl hcs) hn hl (qap h.size z.size)).mono ?_;rintro e w' ⟨rfl,y,x⟩;exact⟨rfl,h.st z y x⟩
theorem LayW.small(h:LayW w0 w g l)(size:Nat)(hz:Jc1 size)(vs:List Nat)(hv:∀v∈vs,v<256 ^ size)(n c:Nat)(cs:Array Value)(hcs:cs.toList=vs.map fun v:Nat=>Value.int .i64 (v:Int))(hn:vs.length=n)(hl:l.length+4*n<=900000):
  Calls Tryz.prog 175 #[.pointer (some ⟨g,0,none⟩),.int .i64 (size:Int),.slice (some ⟨w.heap.size,0,none⟩) n c] (w.alloc (.cells cs 3)) fun e w'=>e= .returned (.tuple #[])/\LayW w0 w' g (l++vs.flatMap (le size)):=by
 have z:=(qaa w.heap.size w).alloc (qab _) (.cells cs 3);refine(Jfv w0.heap.size g size _ n c vs l _ (h.at_.below z) hz hv (h.arg _ cs (by decide)) (Sl.new w _ _ _ cs rfl hcs) hn hl (qap h.size z.size)).mono ?_;rintro e w' ⟨rfl,y,x⟩;exact⟨rfl,h.st z y x⟩
theorem LayW.names(h:LayW w0 w g l)(ss:List ByteArray)(hz:∀s∈ss,s.size<=15)(n c:Nat)(cs:Array Value)(hcs:cs.toList=ss.map Value.string)(hn:ss.length=n)(hl:l.length+16*n<=600000):
  Calls Tryz.prog 298 #[.pointer (some ⟨g,0,none⟩),.slice (some ⟨w.heap.size,0,none⟩) n c] (w.alloc (.cells cs 9)) fun e w'=>e= .returned (.tuple #[])/\LayW w0 w' g (l++ss.flatMap fun s=>nmB s.toList):=by
 have z:=(qaa w.heap.size w).alloc (qab _) (.cells cs 9);refine(Jx6 w0.heap.size g _ n c ss l _ (h.at_.below z) hz (h.arg _ cs (by decide)) (Sl.new w _ _ _ cs rfl hcs) hn hl (qap h.size z.size)).mono ?_;rintro e w' ⟨rfl,y,x⟩;exact⟨rfl,h.st z y x⟩
theorem LayW.text(h:LayW w0 w g l)(s:ByteArray)(hl:l.length<=600000)(hs:s.size<=60000):
  Calls Tryz.prog 330 #[.pointer (some ⟨g,0,none⟩),.string s] w fun e w'=>e= .returned (.tuple #[])/\LayW w0 w' g (l++txB s.toList):=by
 refine(J22 w0.heap.size g s l w h.at_ hl hs h.size).mono ?_;rintro e w' ⟨rfl,z,hs⟩;exact⟨rfl,h.st (qaa _ _) z hs⟩
theorem LayW.fill(h:LayW w0 w g l)(n:Nat)(hl:l.length<=n)(hn:n<=60000):
  Calls Tryz.prog 325 #[.pointer (some ⟨g,0,none⟩),.int .i64 (n:Int)] w fun e w'=>e= .returned (.tuple #[])/\LayW w0 w' g (l++zeros (n - l.length)):=by
 refine(Jtp w0.heap.size g n l w h.at_ hl hn h.size).mono ?_;rintro e w' ⟨rfl,z,y⟩;exact⟨rfl,h.st (qaa _ _) z y⟩
theorem LayW.done(h:LayW w0 w g l):Calls Tryz.prog 177 #[.pointer (some ⟨g,0,none⟩)] w fun e w'=>e= .returned (.tuple #[.string (strOf l),.int .i64 0])/\w=w':=Jnt _ _ _ w h.at_
end
theorem LayW.words0(w:World)(vs:List Nat)(n c:Nat)(cs:Array Value)(hcs:cs.toList=vs.map fun v:Nat=>Value.int .u64 (v:Int))(hn:vs.length=n)(hl:8*n<=900000):
  Calls Tryz.prog 260 #[.pointer (some ⟨w.heap.size,0,none⟩),.slice (some ⟨w.heap.size+1,0,none⟩) n c] ((w.alloc (.cells #[.int .i64 0,.slice none 0 0] 281)).alloc (.cells cs 55)) fun e w'=>e= .returned (.tuple #[])/\LayW w w' w.heap.size (vs.flatMap (le 8)):=by
 have h:=(LayW.new w).words vs n c cs hcs hn (by simpa using hl);rw[show(w.alloc (.cells #[.int .i64 0,.slice none 0 0] 281)).heap.size=w.heap.size+1 from by simp,qah] at h;exact h
theorem LayW.ints0(w:World)(vs:List Int)(n c:Nat)(cs:Array Value)(hcs:cs.toList=vs.map (Value.int .i64))(hn:vs.length=n)(hl:8*n<=800000):
  Calls Tryz.prog 176 #[.pointer (some ⟨w.heap.size,0,none⟩),.slice (some ⟨w.heap.size+1,0,none⟩) n c] ((w.alloc (.cells #[.int .i64 0,.slice none 0 0] 281)).alloc (.cells cs 3)) fun e w'=>e= .returned (.tuple #[])/\LayW w w' w.heap.size (vs.flatMap fun v=>le 8 (u64 v)):=by
 have h:=(LayW.new w).ints vs n c cs hcs hn (by simpa using hl);rw[show(w.alloc (.cells #[.int .i64 0,.slice none 0 0] 281)).heap.size=w.heap.size+1 from by simp,qah] at h;exact h
theorem LayW.names0(w:World)(ss:List ByteArray)(hz:∀s∈ss,s.size<=15)(n c:Nat)(cs:Array Value)(hcs:cs.toList=ss.map Value.string)(hn:ss.length=n)(hl:16*n<=600000):
  Calls Tryz.prog 298 #[.pointer (some ⟨w.heap.size,0,none⟩),.slice (some ⟨w.heap.size+1,0,none⟩) n c] ((w.alloc (.cells #[.int .i64 0,.slice none 0 0] 281)).alloc (.cells cs 9)) fun e w'=>e= .returned (.tuple #[])/\LayW w w' w.heap.size (ss.flatMap fun s=>nmB s.toList):=by
 have h:=(LayW.new w).names ss hz n c cs hcs hn (by simpa using hl);rw[show(w.alloc (.cells #[.int .i64 0,.slice none 0 0] 281)).heap.size=w.heap.size+1 from by simp,qah] at h;exact h
theorem LayW.small0(w:World)(size:Nat)(hz:Jc1 size)(vs:List Nat)(hv:∀v∈vs,v<256 ^ size)(n c:Nat)(cs:Array Value)(hcs:cs.toList=vs.map fun v:Nat=>Value.int .i64 (v:Int))(hn:vs.length=n)(hl:4*n<=900000):
  Calls Tryz.prog 175 #[.pointer (some ⟨w.heap.size,0,none⟩),.int .i64 (size:Int),.slice (some ⟨w.heap.size+1,0,none⟩) n c] ((w.alloc (.cells #[.int .i64 0,.slice none 0 0] 281)).alloc (.cells cs 3)) fun e w'=>e= .returned (.tuple #[])/\LayW w w' w.heap.size (vs.flatMap (le size)):=by
 have h:=(LayW.new w).small size hz vs hv n c cs hcs hn (by simpa using hl);rw[show(w.alloc (.cells #[.int .i64 0,.slice none 0 0] 281)).heap.size=w.heap.size+1 from by simp,qah] at h;exact h
theorem LayW.fill0(w:World)(n:Nat)(hn:n<=60000):
  Calls Tryz.prog 325 #[.pointer (some ⟨w.heap.size,0,none⟩),.int .i64 (n:Int)] (w.alloc (.cells #[.int .i64 0,.slice none 0 0] 281)) fun e w'=>e= .returned (.tuple #[])/\LayW w w' w.heap.size (zeros n):=(LayW.new w).fill n (qak _) hn
structure ReadW (w0 w:World) (g:Nat) (l:List UInt8):Prop where
 at_:UnAt w g l
 low:w0.heap.size<=g
 below:Below w0.heap.size w0 w
section
variable {w0 w w':World} {g:Nat} {l r:List UInt8}
theorem ReadW.grown(h:ReadW w0 w g l)(hu:UnAt w' g r)(hg:w.grownBy w' (some g)):ReadW w0 w' g r:=
 ⟨hu,h.low,h.below.trans ⟨hg.os,hg.tape,hg.output,hg.size,fun b hb=>hg.block b (qa6 hb h.below.size) (fun e=>by cases e;have:=h.low;omega)⟩⟩
theorem ReadW.then_below(h:ReadW w0 w g l)(hb:Below w.heap.size w w'):ReadW w0 w' g l:=⟨h.at_.below hb,h.low,h.below.trans (hb.mono h.below.size)⟩
theorem ReadW.from_(w0:World)(hb:Below w0.heap.size w0 w)(l:List UInt8)(hl:l.length<=900000):Calls Tryz.prog 139 #[.string (strOf l)] w fun e w'=>∃g,e= .returned (.pointer (some ⟨g,0,none⟩))/\ReadW w0 w' g l:=by
 refine(Jps l w hl).mono ?_;rintro e w' ⟨g,rfl,z,x,y⟩;exact⟨g,rfl,x,qap hb.size z,hb.trans (y.mono hb.size)⟩
theorem ReadW.word(v:Nat)(r:List UInt8)(h:ReadW w0 w g (le 8 v++r))(hv:v<18446744073709551616)(hl:r.length<=900000):
  Calls Tryz.prog 228 #[.pointer (some ⟨g,0,none⟩)] w fun e w'=>e= .returned (.int .u64 (v:Int))/\ReadW w0 w' g r:=by
 refine(Jh1 g v r w h.at_ hv hl).mono ?_;rintro e w' ⟨rfl,z,y⟩;exact⟨rfl,h.grown z y⟩
theorem ReadW.int(n:Int)(r:List UInt8)(h:ReadW w0 w g (le 8 (u64 n)++r))(hn: -9223372036854775808<=n/\n<=9223372036854775807)(hl:r.length<=900000):
  Calls Tryz.prog 141 #[.pointer (some ⟨g,0,none⟩)] w fun e w'=>e= .returned (.int .i64 n)/\ReadW w0 w' g r:=by
 refine(Jkr g n r w h.at_ hn hl).mono ?_;rintro e w' ⟨rfl,z,y⟩;exact⟨rfl,h.grown z y⟩
theorem ReadW.small(size v:Nat)(r:List UInt8)(h:ReadW w0 w g (le size v++r))(hs:Jc1 size)(hv:v<256 ^ size)(hl:r.length<=900000):
  Calls Tryz.prog 140 #[.pointer (some ⟨g,0,none⟩),.int .i64 (size:Int)] w fun e w'=>e= .returned (.int .i64 (v:Int))/\ReadW w0 w' g r:=by
 refine(Jcs g size v r w h.at_ hs hv hl).mono ?_;rintro e w' ⟨rfl,z,y⟩;exact⟨rfl,h.grown z y⟩
theorem ReadW.name(s r:List UInt8)(h:ReadW w0 w g (nmB s++r))(hs:s.length<=15)(hl:r.length<=800000):
  Calls Tryz.prog 229 #[.pointer (some ⟨g,0,none⟩)] w fun e w'=>e= .returned (.string (strOf s))/\ReadW w0 w' g r:=by
 refine(Jya g s r w h.at_ hs hl).mono ?_;rintro e w' ⟨rfl,z,y⟩;exact⟨rfl,h.grown z y⟩
end
end Go.Proofs.YtglmhddbhhcjdaaGreatDoor
