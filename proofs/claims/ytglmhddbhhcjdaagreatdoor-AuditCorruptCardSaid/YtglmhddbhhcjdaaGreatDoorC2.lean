/- Laws that the walk of the last text wants. -/
import Derived.WalkKit
import Derived.ProofKit
import Derived.Sort.Walk0
import Derived.Test.YtglmhddbhhcjdaaGreatDoorC1
set_option maxRecDepth 100000
set_option linter.unusedSimpArgs false
set_option maxHeartbeats 4000000
namespace Go.Proofs.YtglmhddbhhcjdaaGreatDoor
open Go.ChangeShapes Go.WideShapes Go.RowKit
structure Sl (w:World) (A:Option Addr) (xs:List Value):Prop where
 at_:xs≠[] ->∃b off,A=some ⟨b,off,none⟩/\b<w.heap.size/\∀j u,xs[j]? =some u ->w.cell? ⟨b,off+j,none⟩=some u
theorem Sl.nil(w:World)(A:Option Addr):Sl w A []:=⟨fun h=>absurd rfl h⟩
theorem Sl.get{w:World}{A:Option Addr}{xs:List Value}(h:Sl w A xs){j:Nat}(hj:j<xs.length):∃b off,A=some ⟨b,off,none⟩/\b<w.heap.size/\w.cell? ⟨b,off+j,none⟩=some xs[j]:=by
 obtain⟨b,off,e,z,y⟩:=h.at_ (fun e=>by subst e;simp at hj);exact⟨b,off,e,z,y j _ (qah hj)⟩
theorem Sl.below{w w':World}{A:Option Addr}{xs:List Value}(h:Sl w A xs)(hb:Below w.heap.size w w'):Sl w' A xs:=
 ⟨fun hne=>by
  obtain⟨b,off,e,z,y⟩:=h.at_ hne;exact⟨b,off,e,qar z hb.size,fun j u hu=>(hb.cell (p:=⟨b,off+j,none⟩) z).trans (y j u hu)⟩⟩
theorem Sl.alloc{w:World}{A:Option Addr}{xs:List Value}(h:Sl w A xs)(o:Obj):Sl (w.alloc o) A xs:=h.below ((qaa _ _).alloc (qab _) o)
theorem Sl.drew{w:World}{A:Option Addr}{xs:List Value}(h:Sl w A xs):Sl w.drew A xs:=h.below ((qaa _ _).drew)
theorem Sl.new(w:World)(T:TypeId)(g:Nat)(xs:List Value)(cs:Array Value)(hg:g=w.heap.size)(hc:cs.toList=xs):Sl (w.alloc (.cells cs T)) (some ⟨g,0,none⟩) xs:=by
 subst hg hc;refine⟨fun _=>⟨_,_,rfl,by simp,fun j u hu=> ?_⟩⟩;have:=qb4 (w.alloc (.cells cs T)) w.heap.size j cs T (0,0) (qci w _);rw[qa7,this];simpa using hu
structure Strs (w:World) (A:Option Addr) (n:Nat) (ss:List ByteArray):Prop where
 sl:Sl w A (ss.map Value.string)
 len:ss.length=n
 n_le:n<=maxLen
 size:∀s∈ss,s.size<=maxLen
theorem Strs.get{w:World}{A:Option Addr}{n:Nat}{ss:List ByteArray}(h:Strs w A n ss){j:Nat}(hj:j<ss.length):∃b off,A=some ⟨b,off,none⟩/\b<w.heap.size/\w.cell? ⟨b,off+j,none⟩=some (.string ss[j]):=by
 obtain⟨b,off,e,z,y⟩:=h.sl.get (j:=j) (by simpa using hj);exact⟨b,off,e,z,by simpa using y⟩
theorem Strs.below{w w':World}{A:Option Addr}{n:Nat}{ss:List ByteArray}(h:Strs w A n ss)(hb:Below w.heap.size w w'):Strs w' A n ss:=⟨h.sl.below hb,h.len,h.n_le,h.size⟩
theorem Strs.alloc{w:World}{A:Option Addr}{n:Nat}{ss:List ByteArray}(h:Strs w A n ss)(o:Obj):Strs (w.alloc o) A n ss:=⟨h.sl.alloc o,h.len,h.n_le,h.size⟩
theorem Strs.new(w:World)(T:TypeId)(g n:Nat)(ss:List ByteArray)(cs:Array Value)(hg:g=w.heap.size)(hc:cs.toList=ss.map Value.string)(hn:ss.length=n)(hm:n<=maxLen)(hs:∀s∈ss,s.size<=maxLen):
  Strs (w.alloc (.cells cs T)) (some ⟨g,0,none⟩) n ss:=⟨Sl.new w T g _ cs hg hc,hn,hm,hs⟩
structure Ints (w:World) (k:IntKind) (A:Option Addr) (n:Nat) (zs:List Int):Prop where
 sl:Sl w A (zs.map (Value.int k))
 len:zs.length=n
 n_le:n<=maxLen
 wf:∀z∈zs,(Lit.int k z).wf=true
theorem Ints.get{w:World}{k:IntKind}{A:Option Addr}{n:Nat}{zs:List Int}(h:Ints w k A n zs){j:Nat}(hj:j<zs.length):∃b off,A=some ⟨b,off,none⟩/\b<w.heap.size/\w.cell? ⟨b,off+j,none⟩=some (.int k zs[j]):=by
 obtain⟨b,off,e,z,y⟩:=h.sl.get (j:=j) (by simpa using hj);exact⟨b,off,e,z,by simpa using y⟩
theorem Ints.below{w w':World}{k:IntKind}{A:Option Addr}{n:Nat}{zs:List Int}(h:Ints w k A n zs)(hb:Below w.heap.size w w'):Ints w' k A n zs:=⟨h.sl.below hb,h.len,h.n_le,h.wf⟩
theorem Ints.new(w:World)(T:TypeId)(k:IntKind)(g n:Nat)(zs:List Int)(cs:Array Value)(hg:g=w.heap.size)(hc:cs.toList=zs.map (Value.int k))(hn:zs.length=n)(hm:n<=maxLen)(hs:∀z∈zs,(Lit.int k z).wf=true):
  Ints (w.alloc (.cells cs T)) k (some ⟨g,0,none⟩) n zs:=⟨Sl.new w T g _ cs hg hc,hn,hm,hs⟩
section
variable {H:Type} {enc:TypeId×Value ->H} {P:Program} {w:World} {base:Nat} {spare:Nat ->Bool} {held:Bool}
end
end Go.Proofs.YtglmhddbhhcjdaaGreatDoor
namespace Go.Proofs.YtglmhddbhhcjdaaGreatDoor
open Go.RowKit
def Jlx (x:Int) (c:UInt8):Int:=bits BinOp.xor IntKind.u32 x ((c.toNat:Int) % 4294967296)*16777619 % 4294967296
def Jgb:Int ->List UInt8 ->Int
 | x,[]=>x
 | x,c::l=>Jgb (Jlx x c) l
def hash (l:List UInt8):Int:=Jgb 2166136261 l
theorem Jnh(l:List UInt8)(x:Int)(c:UInt8):Jgb x (l++[c])=Jlx (Jgb x l) c:=by
 induction l generalizing x with
 | nil=>rfl
 | cons a l ih=>exact ih _
theorem Jxu(l:List UInt8)(c:UInt8):hash (l++[c])=Jlx (hash l) c:=Jnh _ _ _
theorem J2v(x:Int)(c:UInt8):0<=Jlx x c/\Jlx x c<4294967296:=by unfold Jlx;omega
theorem Jru(l:List UInt8)(x:Int)(h:0<=x/\x<4294967296):0<=Jgb x l/\Jgb x l<4294967296:=by
 induction l generalizing x with
 | nil=>exact h
 | cons a l ih=>exact ih _ (J2v x a)
theorem Jrv(l:List UInt8):0<=hash l/\hash l<4294967296:=Jru l _ (by decide)
theorem Jal{a b:Bool}(h:a=b):Ending.returned a= .returned b:=by rw[h]
theorem Jby{k:IntKind}{a b:Int}(h:a=b):Ending.returned (.int k a)= .returned (.int k b):=by rw[h]
theorem Jac(s:ByteArray):s.toList.length=s.size:=by rw[qaw];simp
theorem Jcg(s:ByteArray)(k:Nat)(h:k<s.size):s.toList.take (k+1)=s.toList.take k++[s[k]]:=by
 rw[qaw,qam (by simpa using h)];rfl
theorem Jgc(s:ByteArray)(k:Nat)(h:k<s.size):s.toList[k]? =some s[k]:=by
 rw[qaw,qah (by simpa using h)];rfl
def Jdt (c:Int):Bool:=decide ((97<=c/\c<=122)\/(48<=c/\c<=57)\/c=46\/c=95\/c=45)
theorem Jl5{c:Int}(h:(97<=c/\c<=122)\/(48<=c/\c<=57)\/c=46\/c=95\/c=45):Jdt c=true:=qaj h
theorem Jo0{c:Int}(h: ¬((97<=c/\c<=122)\/(48<=c/\c<=57)\/c=46\/c=95\/c=45)):Jdt c=false:=qae h
def Jbg (l:List UInt8):Bool:=l.all fun c=>Jdt c.toNat
def Jae (l:List UInt8):Bool:=decide (1<=l.length/\l.length<=15) && Jbg l
theorem Jni(l:List UInt8)(c:UInt8):Jbg (l++[c])=(Jbg l && Jdt c.toNat):=by simp[Jbg]
theorem Jja(s:ByteArray)(k:Nat)(h:k<s.size):Jbg (s.toList.take (k+1))=(Jbg (s.toList.take k) && Jdt s[k].toNat):=by rw[Jcg s k h,Jni]
theorem Jj6(s:ByteArray)(k:Nat)(h:k<s.size)(hb:Jdt s[k].toNat=false):Jbg s.toList=false:=by
 have z:s[k]∈s.toList:=List.mem_of_getElem? (Jgc s k h);cases hh:Jbg s.toList
 · rfl
 · unfold Jbg at hh;rw[qdr] at hh;have:=hh _ z;rw[hb] at this;cases this
theorem Je1(s:ByteArray)(h:s.size<1\/15<s.size):Jae s.toList=false:=by
 unfold Jae;rw[Jac,qae (by omega)];rfl
theorem Jo1(s:ByteArray)(h:Jbg s.toList=false):Jae s.toList=false:=by unfold Jae;rw[h,Bool.and_false]
theorem Jtj(s:ByteArray)(h1:1<=s.size)(h2:s.size<=15)(h:Jbg s.toList=true):Jae s.toList=true:=by
 unfold Jae;rw[h,Jac,qaj (by omega)];rfl
theorem Jtk{α:Type}(f:α ->Bool)(l:List α)(k:Nat)(x:α)(ht:l.take (k+1)=l.take k++[x])(h:(l.take k).all f=true)(hx:f x=true):(l.take (k+1)).all f=true:=by rw[ht];simp[h,hx]
theorem Jio{α:Type}(f:α ->Bool)(l:List α)(x:α)(hm:x∈l)(hx:f x=false):l.all f=false:=by
 cases hh:l.all f
 · rfl
 · rw[qdr] at hh;have:=hh _ hm;rw[hx] at this;cases this
def Jc2 (l:List UInt8) (n:Int):Int:=if n<1 then 0 else hash l % n
def cmpS (a b:List UInt8):Int:=if Op.bytesLess a b=true then -1 else if (!a==b)=true then 1 else 0
def cmpI (a b:Int):Int:=if a<b then -1 else if b<a then 1 else 0
def cmpR (a:List UInt8) (x:Int) (b:List UInt8) (y:Int):Int:=if cmpS a b=0 then cmpI x y else cmpS a b
theorem J6o(a b:List UInt8):Op.bytesLess a b=decide (a<b):=Go.Proofs.bytesLess_eq a b
theorem Jxv(a:List UInt8):Op.bytesLess a a=false:=by rw[J6o];simp
theorem J2w{a b c:List UInt8}(h:Op.bytesLess a b=true)(k:Op.bytesLess b c=true):Op.bytesLess a c=true:=by
 rw[J6o,decide_eq_true_iff] at*;exact List.lt_trans h k
theorem J2x{a b:List UInt8}(h:Op.bytesLess a b=false)(k:Op.bytesLess b a=false):a=b:=by
 rw[J6o,decide_eq_false_iff_not] at*;exact List.le_antisymm (List.not_lt.1 k) (List.not_lt.1 h)
def ahead (a:List UInt8) (x:Int) (b:List UInt8) (y:Int):Prop:=Op.bytesLess a b=true\/(a=b/\x<y)
theorem J2y(a:List UInt8)(x:Int)(b:List UInt8)(y:Int):cmpR a x b y<0↔ahead a x b y:=by
 unfold cmpR cmpS cmpI ahead;cases h:Op.bytesLess a b
 · by_cases e:a=b
   · subst e
     simp
     by_cases z:x<y
     · simp[z]
     · by_cases w:y<x<;>simp[z,w]
   · simp[e]
 · simp
def Jdu (a:List UInt8) (x:Int) (b:List UInt8) (y:Int):Bool:=decide (cmpR a x b y<0)
theorem Jce(a:List UInt8)(x:Int)(b:List UInt8)(y:Int):Jdu a x b y=true↔ahead a x b y:=by
 unfold Jdu;rw[decide_eq_true_iff];exact J2y a x b y
theorem Jfo(a:List UInt8)(x:Int): ¬ ahead a x a x:=by
 unfold ahead;rw[Jxv];simp
theorem Jj7{a b c:List UInt8}{x y z:Int}(h:ahead a x b y)(k:ahead b y c z):ahead a x c z:=by
 rcases h with h | ⟨rfl,h⟩
 · rcases k with k | ⟨rfl,k⟩
   · exact .inl (J2w h k)
   · exact .inl h
 · rcases k with k | ⟨rfl,k⟩
   · exact .inl k
   · exact .inr ⟨rfl,by omega⟩
theorem Jj8{a b:List UInt8}{x y:Int}(h: ¬ ahead a x b y)(k: ¬ ahead b y a x):a=b/\x=y:=by
 unfold ahead at h k
 have e:a=b:=by
  apply J2x
  · cases hh:Op.bytesLess a b
    · rfl
    · exact absurd (.inl hh) h
  · cases hh:Op.bytesLess b a
    · rfl
    · exact absurd (.inl hh) k
 subst e;refine⟨rfl,?_⟩;have z: ¬ x<y:=fun hh=>h (.inr ⟨rfl,hh⟩);have w: ¬ y<x:=fun hh=>k (.inr ⟨rfl,hh⟩);omega
theorem Jnj(a:List UInt8)(x:Int):Jdu a x a x=false:=by
 cases h:Jdu a x a x
 · rfl
 · exact absurd ((Jce _ _ _ _).1 h) (Jfo a x)
theorem Jjb{a b c:List UInt8}{x y z:Int}(h:Jdu a x b y=true)(k:Jdu b y c z=true):Jdu a x c z=true:=
 (Jce _ _ _ _).2 (Jj7 ((Jce _ _ _ _).1 h) ((Jce _ _ _ _).1 k))
theorem Jo2{a b:List UInt8}{x y:Int}(h:Jdu a x b y=false)(k:Jdu b y a x=false):a=b/\x=y:=
 Jj8 (fun hh=>by rw[(Jce _ _ _ _).2 hh] at h;cases h) (fun hh=>by rw[(Jce _ _ _ _).2 hh] at k;cases k)
end Go.Proofs.YtglmhddbhhcjdaaGreatDoor
namespace Go.Proofs.YtglmhddbhhcjdaaGreatDoor
def le:Nat ->Nat ->List UInt8
 | 0,_=>[]
 | k+1,v=>UInt8.ofNat v::le k (v / 256)
def leN:List UInt8 ->Nat
 | []=>0
 | c::r=>c.toNat+256*leN r
@[simp] theorem Ja2(k v:Nat):(le k v).length=k:=by
 induction k generalizing v with
 | zero=>rfl
 | succ k ih=>simp[le,ih]
theorem Jtl(v:Nat):(UInt8.ofNat v).toNat=v % 256:=by simp
theorem J6b(k v:Nat):leN (le k v)=v % 256 ^ k:=by
 induction k generalizing v with
 | zero=>simp[le,leN,Nat.mod_one]
 | succ k ih=>rw[le,leN,ih,Jtl,Nat.pow_succ,Nat.mul_comm (256 ^ k) 256,Nat.mod_mul]
theorem Jch{k v:Nat}(h:v<256 ^ k):leN (le k v)=v:=by rw[J6b,Nat.mod_eq_of_lt h]
theorem Jo3(l:List UInt8):leN l<256 ^ l.length:=by
 induction l with
 | nil=>simp[leN]
 | cons c r ih=>
   have h:=c.toNat_lt;rw[leN,qa3,Nat.pow_succ];omega
theorem Jjc(l:List UInt8):le l.length (leN l)=l:=by
 induction l with
 | nil=>rfl
 | cons c r ih=>
   have h:=c.toNat_lt;rw[qa3,leN,le,show(c.toNat+256*leN r) / 256=leN r by omega,ih]
   congr 1
   apply UInt8.toNat_inj.1;rw[Jtl];omega
theorem le_succ(k v:Nat):le (k+1) v=le k v++[UInt8.ofNat (v / 256 ^ k)]:=by
 induction k generalizing v with
 | zero=>simp[le]
 | succ k ih=>
   rw[le,ih,le,qdq,Nat.div_div_eq_div_mul,Nat.pow_succ,Nat.mul_comm 256]
theorem J2z(l:List UInt8)(c:UInt8):leN (l++[c])=leN l+256 ^ l.length*c.toNat:=by
 induction l with
 | nil=>simp[leN]
 | cons d r ih=>
   rw[qdq,leN,leN,ih,qa3,Nat.pow_succ,Nat.mul_add,<- Nat.mul_assoc,Nat.mul_comm (256 ^ r.length) 256];omega
theorem Jrw(k:Nat):256 ^ k=2 ^ (8*k):=by rw[Nat.pow_mul]
theorem J9e(l:List UInt8)(c:UInt8):leN l ||| (c.toNat*2 ^ (8*l.length))=leN (l++[c]):=by
 have h:=Jo3 l;rw[Jrw] at h;rw[J2z,Jrw,Nat.mul_comm c.toNat,Nat.or_comm,<- Nat.two_pow_add_eq_or_of_lt h];omega
def u64 (n:Int):Nat:=(n % 18446744073709551616).toNat
theorem J6c(n:Int):u64 n<256 ^ 8:=by unfold u64;omega
def i64 (v:Nat):Int:=if (v:Int)<9223372036854775808 then v else (v:Int) - 18446744073709551616
theorem J6p{n:Int}(h: -9223372036854775808<=n/\n<=9223372036854775807):i64 (u64 n)=n:=by
 unfold i64 u64;split<;>omega
