/-
  Several texts in one: Mem, Plain5, Order, Pk.
-/
import Derived.WalkKit
import Derived.ProofKit
import Derived.SliceStrings
import Derived.Sort.Walk0
import Derived.Test.YtglmhddbhhcjdaaGreatDoorV1
set_option maxRecDepth 100000
set_option linter.unusedSimpArgs false
set_option maxHeartbeats 4000000
namespace Go.Proofs.YtglmhddbhhcjdaaGreatDoor
open Go.ChangeShapes Go.WideShapes Go.RowKit
structure Sl (w:World) (A:Option Addr) (xs:List Value):Prop where
 at_:xs≠[] ->∃b off,A=some ⟨b,off,none⟩/\b<w.heap.size/\∀j u,xs[j]? =some u ->w.cell? ⟨b,off+j,none⟩=some u
theorem Sl.nil(w:World)(A:Option Addr):Sl w A []:=⟨fun h=>absurd rfl h⟩
theorem Sl.get{w:World}{A:Option Addr}{xs:List Value}(h:Sl w A xs){j:Nat}(hj:j<xs.length):∃b off,A=some ⟨b,off,none⟩/\b<w.heap.size/\w.cell? ⟨b,off+j,none⟩=some xs[j]:=by
 obtain⟨b,off,e,z,y⟩:=h.at_ (fun e=>by subst e;simp at hj);exact⟨b,off,e,z,y j _ (qam hj)⟩
theorem Sl.below{w w':World}{A:Option Addr}{xs:List Value}(h:Sl w A xs)(hb:Below w.heap.size w w'):Sl w' A xs:=
 ⟨fun hne=>by
  obtain⟨b,off,e,z,y⟩:=h.at_ hne;exact⟨b,off,e,qar z hb.size,fun j u hu=>(hb.cell (p:=⟨b,off+j,none⟩) z).trans (y j u hu)⟩⟩
theorem Sl.alloc{w:World}{A:Option Addr}{xs:List Value}(h:Sl w A xs)(o:Obj):Sl (w.alloc o) A xs:=h.below ((qaa _ _).alloc (qab _) o)
theorem Sl.drew{w:World}{A:Option Addr}{xs:List Value}(h:Sl w A xs):Sl w.drew A xs:=h.below ((qaa _ _).drew)
theorem Sl.new(w:World)(T:TypeId)(g:Nat)(xs:List Value)(cs:Array Value)(hg:g=w.heap.size)(hc:cs.toList=xs):Sl (w.alloc (.cells cs T)) (some ⟨g,0,none⟩) xs:=by
 subst hg hc;refine⟨fun _=>⟨_,_,rfl,by simp,fun j u hu=> ?_⟩⟩;have:=qb1 (w.alloc (.cells cs T)) w.heap.size j cs T (0,0) (qcg w _);rw[qa9,this];simpa using hu
structure Strs (w:World) (A:Option Addr) (n:Nat) (ss:List ByteArray):Prop where
 sl:Sl w A (ss.map Value.string)
 len:ss.length=n
 n_le:n<=maxLen
 size:∀s∈ss,s.size<=maxLen
theorem Strs.get{w:World}{A:Option Addr}{n:Nat}{ss:List ByteArray}(h:Strs w A n ss){j:Nat}(hj:j<ss.length):∃b off,A=some ⟨b,off,none⟩/\b<w.heap.size/\w.cell? ⟨b,off+j,none⟩=some (.string ss[j]):=by
 obtain⟨b,off,e,z,y⟩:=h.sl.get (j:=j) (by simpa using hj);exact⟨b,off,e,z,by simpa using y⟩
theorem Strs.below{w w':World}{A:Option Addr}{n:Nat}{ss:List ByteArray}(h:Strs w A n ss)(hb:Below w.heap.size w w'):Strs w' A n ss:=⟨h.sl.below hb,h.len,h.n_le,h.size⟩
theorem Strs.alloc{w:World}{A:Option Addr}{n:Nat}{ss:List ByteArray}(h:Strs w A n ss)(o:Obj):Strs (w.alloc o) A n ss:=⟨h.sl.alloc o,h.len,h.n_le,h.size⟩
theorem Strs.new(w:World)(T:TypeId)(g n:Nat)(ss:List ByteArray)(cs:Array Value)(hg:g=w.heap.size)(hc:cs.toList=ss.map Value.string)(hn:ss.length=n)(hm:n<=maxLen)(hs:∀s∈ss,s.size<=maxLen):
  Strs (w.alloc (.cells cs T)) (some ⟨g,0,none⟩) n ss:=⟨Sl.new w T g _ cs hg hc,hn,hm,hs⟩
structure Ints (w:World) (k:IntKind) (A:Option Addr) (n:Nat) (zs:List Int):Prop where
 sl:Sl w A (zs.map (Value.int k))
 len:zs.length=n
 n_le:n<=maxLen
 wf:∀z∈zs,(Lit.int k z).wf=true
theorem Ints.get{w:World}{k:IntKind}{A:Option Addr}{n:Nat}{zs:List Int}(h:Ints w k A n zs){j:Nat}(hj:j<zs.length):∃b off,A=some ⟨b,off,none⟩/\b<w.heap.size/\w.cell? ⟨b,off+j,none⟩=some (.int k zs[j]):=by
 obtain⟨b,off,e,z,y⟩:=h.sl.get (j:=j) (by simpa using hj);exact⟨b,off,e,z,by simpa using y⟩
theorem Ints.below{w w':World}{k:IntKind}{A:Option Addr}{n:Nat}{zs:List Int}(h:Ints w k A n zs)(hb:Below w.heap.size w w'):Ints w' k A n zs:=⟨h.sl.below hb,h.len,h.n_le,h.wf⟩
theorem Ints.new(w:World)(T:TypeId)(k:IntKind)(g n:Nat)(zs:List Int)(cs:Array Value)(hg:g=w.heap.size)(hc:cs.toList=zs.map (Value.int k))(hn:zs.length=n)(hm:n<=maxLen)(hs:∀z∈zs,(Lit.int k z).wf=true):
  Ints (w.alloc (.cells cs T)) k (some ⟨g,0,none⟩) n zs:=⟨Sl.new w T g _ cs hg hc,hn,hm,hs⟩
section
variable {H:Type} {enc:TypeId×Value ->H} {P:Program} {w:World} {base:Nat} {spare:Nat ->Bool} {held:Bool}
end
end Go.Proofs.YtglmhddbhhcjdaaGreatDoor
namespace Go.Proofs.YtglmhddbhhcjdaaGreatDoor
open Go.RowKit
def Jlh (x:Int) (c:UInt8):Int:=bits BinOp.xor IntKind.u32 x ((c.toNat:Int) % 4294967296)*16777619 % 4294967296
def Jf8:Int ->List UInt8 ->Int
 | x,[]=>x
 | x,c::l=>Jf8 (Jlh x c) l
def hash (l:List UInt8):Int:=Jf8 2166136261 l
theorem Jm2(l:List UInt8)(x:Int)(c:UInt8):Jf8 x (l++[c])=Jlh (Jf8 x l) c:=by
 induction l generalizing x with
 | nil=>rfl
 | cons a l ih=>exact ih _
theorem Jw7(l:List UInt8)(c:UInt8):hash (l++[c])=Jlh (hash l) c:=Jm2 _ _ _
theorem J1z(x:Int)(c:UInt8):0<=Jlh x c/\Jlh x c<4294967296:=by unfold Jlh;omega
theorem Jrk(l:List UInt8)(x:Int)(h:0<=x/\x<4294967296):0<=Jf8 x l/\Jf8 x l<4294967296:=by
 induction l generalizing x with
 | nil=>exact h
 | cons a l ih=>exact ih _ (J1z x a)
theorem Jrl(l:List UInt8):0<=hash l/\hash l<4294967296:=Jrk l _ (by decide)
theorem Jaj{a b:Bool}(h:a=b):Ending.returned a= .returned b:=by rw[h]
theorem Jby{k:IntKind}{a b:Int}(h:a=b):Ending.returned (.int k a)= .returned (.int k b):=by rw[h]
theorem Jac(s:ByteArray):s.toList.length=s.size:=by rw[qau];simp
theorem Jcd(s:ByteArray)(k:Nat)(h:k<s.size):s.toList.take (k+1)=s.toList.take k++[s[k]]:=by
 rw[qau,qak (by simpa using h)];rfl
theorem Jf9(s:ByteArray)(k:Nat)(h:k<s.size):s.toList[k]? =some s[k]:=by
 rw[qau,qam (by simpa using h)];rfl
def Jdk (c:Int):Bool:=decide ((97<=c/\c<=122)\/(48<=c/\c<=57)\/c=46\/c=95\/c=45)
theorem Jlp{c:Int}(h:(97<=c/\c<=122)\/(48<=c/\c<=57)\/c=46\/c=95\/c=45):Jdk c=true:=qan h
theorem Jor{c:Int}(h: ¬((97<=c/\c<=122)\/(48<=c/\c<=57)\/c=46\/c=95\/c=45)):Jdk c=false:=qae h
def Jbh (l:List UInt8):Bool:=l.all fun c=>Jdk c.toNat
def Jaf (l:List UInt8):Bool:=decide (1<=l.length/\l.length<=15) && Jbh l
theorem Jm3(l:List UInt8)(c:UInt8):Jbh (l++[c])=(Jbh l && Jdk c.toNat):=by simp[Jbh]
theorem Jiy(s:ByteArray)(k:Nat)(h:k<s.size):Jbh (s.toList.take (k+1))=(Jbh (s.toList.take k) && Jdk s[k].toNat):=by rw[Jcd s k h,Jm3]
theorem Jjn(s:ByteArray)(k:Nat)(h:k<s.size)(hb:Jdk s[k].toNat=false):Jbh s.toList=false:=by
 have z:s[k]∈s.toList:=List.mem_of_getElem? (Jf9 s k h);cases hh:Jbh s.toList
 · rfl
 · unfold Jbh at hh;rw[qdq] at hh;have:=hh _ z;rw[hb] at this;cases this
theorem Jex(s:ByteArray)(h:s.size<1\/15<s.size):Jaf s.toList=false:=by
 unfold Jaf;rw[Jac,qae (by omega)];rfl
theorem Jos(s:ByteArray)(h:Jbh s.toList=false):Jaf s.toList=false:=by unfold Jaf;rw[h,Bool.and_false]
theorem Js0(s:ByteArray)(h1:1<=s.size)(h2:s.size<=15)(h:Jbh s.toList=true):Jaf s.toList=true:=by
 unfold Jaf;rw[h,Jac,qan (by omega)];rfl
theorem Js1{α:Type}(f:α ->Bool)(l:List α)(k:Nat)(x:α)(ht:l.take (k+1)=l.take k++[x])(h:(l.take k).all f=true)(hx:f x=true):(l.take (k+1)).all f=true:=by rw[ht];simp[h,hx]
theorem Jih{α:Type}(f:α ->Bool)(l:List α)(x:α)(hm:x∈l)(hx:f x=false):l.all f=false:=by
 cases hh:l.all f
 · rfl
 · rw[qdq] at hh;have:=hh _ hm;rw[hx] at this;cases this
def Jcx (l:List UInt8) (n:Int):Int:=if n<1 then 0 else hash l % n
def cmpS (a b:List UInt8):Int:=if Op.bytesLess a b=true then -1 else if (!a==b)=true then 1 else 0
def cmpI (a b:Int):Int:=if a<b then -1 else if b<a then 1 else 0
def cmpR (a:List UInt8) (x:Int) (b:List UInt8) (y:Int):Int:=if cmpS a b=0 then cmpI x y else cmpS a b
theorem J50(a b:List UInt8):Op.bytesLess a b=decide (a<b):=Go.Proofs.bytesLess_eq a b
theorem Jw8(a:List UInt8):Op.bytesLess a a=false:=by rw[J50];simp
theorem J10{a b c:List UInt8}(h:Op.bytesLess a b=true)(k:Op.bytesLess b c=true):Op.bytesLess a c=true:=by
 rw[J50,decide_eq_true_iff] at*;exact List.lt_trans h k
theorem J11{a b:List UInt8}(h:Op.bytesLess a b=false)(k:Op.bytesLess b a=false):a=b:=by
 rw[J50,decide_eq_false_iff_not] at*;exact List.le_antisymm (List.not_lt.1 k) (List.not_lt.1 h)
def ahead (a:List UInt8) (x:Int) (b:List UInt8) (y:Int):Prop:=Op.bytesLess a b=true\/(a=b/\x<y)
theorem J12(a:List UInt8)(x:Int)(b:List UInt8)(y:Int):cmpR a x b y<0↔ahead a x b y:=by
 unfold cmpR cmpS cmpI ahead;cases h:Op.bytesLess a b
 · by_cases e:a=b
   · subst e
     simp
     by_cases z:x<y
     · simp[z]
     · by_cases w:y<x<;>simp[z,w]
   · simp[e]
 · simp
def Jdl (a:List UInt8) (x:Int) (b:List UInt8) (y:Int):Bool:=decide (cmpR a x b y<0)
theorem Jcb(a:List UInt8)(x:Int)(b:List UInt8)(y:Int):Jdl a x b y=true↔ahead a x b y:=by
 unfold Jdl;rw[decide_eq_true_iff];exact J12 a x b y
theorem Jfj(a:List UInt8)(x:Int): ¬ ahead a x a x:=by
 unfold ahead;rw[Jw8];simp
theorem Jjo{a b c:List UInt8}{x y z:Int}(h:ahead a x b y)(k:ahead b y c z):ahead a x c z:=by
 rcases h with h | ⟨rfl,h⟩
 · rcases k with k | ⟨rfl,k⟩
   · exact .inl (J10 h k)
   · exact .inl h
 · rcases k with k | ⟨rfl,k⟩
   · exact .inl k
   · exact .inr ⟨rfl,by omega⟩
theorem Jjp{a b:List UInt8}{x y:Int}(h: ¬ ahead a x b y)(k: ¬ ahead b y a x):a=b/\x=y:=by
 unfold ahead at h k
 have e:a=b:=by
  apply J11
  · cases hh:Op.bytesLess a b
    · rfl
    · exact absurd (.inl hh) h
  · cases hh:Op.bytesLess b a
    · rfl
    · exact absurd (.inl hh) k
 subst e;refine⟨rfl,?_⟩;have z: ¬ x<y:=fun hh=>h (.inr ⟨rfl,hh⟩);have w: ¬ y<x:=fun hh=>k (.inr ⟨rfl,hh⟩);omega
theorem Jm4(a:List UInt8)(x:Int):Jdl a x a x=false:=by
 cases h:Jdl a x a x
 · rfl
 · exact absurd ((Jcb _ _ _ _).1 h) (Jfj a x)
theorem Jiz{a b c:List UInt8}{x y z:Int}(h:Jdl a x b y=true)(k:Jdl b y c z=true):Jdl a x c z=true:=
 (Jcb _ _ _ _).2 (Jjo ((Jcb _ _ _ _).1 h) ((Jcb _ _ _ _).1 k))
theorem Jot{a b:List UInt8}{x y:Int}(h:Jdl a x b y=false)(k:Jdl b y a x=false):a=b/\x=y:=
 Jjp (fun hh=>by rw[(Jcb _ _ _ _).2 hh] at h;cases h) (fun hh=>by rw[(Jcb _ _ _ _).2 hh] at k;cases k)
end Go.Proofs.YtglmhddbhhcjdaaGreatDoor
namespace Go.Proofs.YtglmhddbhhcjdaaGreatDoor
def le:Nat ->Nat ->List UInt8
 | 0,_=>[]
 | k+1,v=>UInt8.ofNat v::le k (v / 256)
def leN:List UInt8 ->Nat
 | []=>0
 | c::r=>c.toNat+256*leN r
@[simp] theorem Ja2(k v:Nat):(le k v).length=k:=by
 induction k generalizing v with
 | zero=>rfl
 | succ k ih=>simp[le,ih]
theorem Js2(v:Nat):(UInt8.ofNat v).toNat=v % 256:=by simp
theorem J8v(k v:Nat):leN (le k v)=v % 256 ^ k:=by
 induction k generalizing v with
 | zero=>simp[le,leN,Nat.mod_one]
 | succ k ih=>rw[le,leN,ih,Js2,Nat.pow_succ,Nat.mul_comm (256 ^ k) 256,Nat.mod_mul]
theorem Jdc{k v:Nat}(h:v<256 ^ k):leN (le k v)=v:=by rw[J8v,Nat.mod_eq_of_lt h]
theorem Jou(l:List UInt8):leN l<256 ^ l.length:=by
 induction l with
 | nil=>simp[leN]
 | cons c r ih=>
   have h:=c.toNat_lt;rw[leN,qa3,Nat.pow_succ];omega
theorem J8w(l:List UInt8):le l.length (leN l)=l:=by
 induction l with
 | nil=>rfl
 | cons c r ih=>
   have h:=c.toNat_lt;rw[qa3,leN,le,show(c.toNat+256*leN r) / 256=leN r by omega,ih]
   congr 1
   apply UInt8.toNat_inj.1;rw[Js2];omega
theorem le_succ(k v:Nat):le (k+1) v=le k v++[UInt8.ofNat (v / 256 ^ k)]:=by
 induction k generalizing v with
 | zero=>simp[le]
 | succ k ih=>
   rw[le,ih,le,qdp,Nat.div_div_eq_div_mul,Nat.pow_succ,Nat.mul_comm 256]
theorem J13(l:List UInt8)(c:UInt8):leN (l++[c])=leN l+256 ^ l.length*c.toNat:=by
 induction l with
 | nil=>simp[leN]
 | cons d r ih=>
   rw[qdp,leN,leN,ih,qa3,Nat.pow_succ,Nat.mul_add,<- Nat.mul_assoc,Nat.mul_comm (256 ^ r.length) 256];omega
theorem Jrm(k:Nat):256 ^ k=2 ^ (8*k):=by rw[Nat.pow_mul]
theorem J8x(l:List UInt8)(c:UInt8):leN l ||| (c.toNat*2 ^ (8*l.length))=leN (l++[c]):=by
 have h:=Jou l;rw[Jrm] at h;rw[J13,Jrm,Nat.mul_comm c.toNat,Nat.or_comm,<- Nat.two_pow_add_eq_or_of_lt h];omega
def u64 (n:Int):Nat:=(n % 18446744073709551616).toNat
theorem J5i(n:Int):u64 n<256 ^ 8:=by unfold u64;omega
def i64 (v:Nat):Int:=if (v:Int)<9223372036854775808 then v else (v:Int) - 18446744073709551616
theorem J51{n:Int}(h: -9223372036854775808<=n/\n<=9223372036854775807):i64 (u64 n)=n:=by
 unfold i64 u64;split<;>omega
end Go.Proofs.YtglmhddbhhcjdaaGreatDoor
