/-
  Several texts in one: Mem, Plain5, Order, Pk.
-/
import Derived.WalkKit
import Derived.ProofKit
import Derived.SliceStrings
import Derived.Sort.Walk0
import Derived.Test.YtglmhddbhhcjdaaGreatDoorU1
set_option maxRecDepth 100000
set_option linter.unusedSimpArgs false
set_option maxHeartbeats 4000000
namespace Go.Proofs.YtglmhddbhhcjdaaGreatDoor
open Go.ChangeShapes Go.WideShapes Go.RowKit
structure Sl (w:World) (A:Option Addr) (xs:List Value):Prop where
 at_:xs≠[] ->∃b off,A=some ⟨b,off,none⟩/\b<w.heap.size/\∀j u,xs[j]? =some u ->w.cell? ⟨b,off+j,none⟩=some u
theorem Sl.nil(w:World)(A:Option Addr):Sl w A []:=⟨fun h=>absurd rfl h⟩
theorem Sl.get{w:World}{A:Option Addr}{xs:List Value}(h:Sl w A xs){j:Nat}(hj:j<xs.length):∃b off,A=some ⟨b,off,none⟩/\b<w.heap.size/\w.cell? ⟨b,off+j,none⟩=some xs[j]:=by
 obtain⟨b,off,e,z,y⟩:=h.at_ (fun e=>by subst e;simp at hj);exact⟨b,off,e,z,y j _ (qbw hj)⟩
theorem Sl.below{w w':World}{A:Option Addr}{xs:List Value}(h:Sl w A xs)(hb:Below w.heap.size w w'):Sl w' A xs:=
 ⟨fun hne=>by
  obtain⟨b,off,e,z,y⟩:=h.at_ hne;exact⟨b,off,e,qa6 z hb.size,fun j u hu=>(hb.cell (p:=⟨b,off+j,none⟩) z).trans (y j u hu)⟩⟩
theorem Sl.alloc{w:World}{A:Option Addr}{xs:List Value}(h:Sl w A xs)(o:Obj):Sl (w.alloc o) A xs:=h.below ((qaa _ _).alloc (qab _) o)
theorem Sl.drew{w:World}{A:Option Addr}{xs:List Value}(h:Sl w A xs):Sl w.drew A xs:=h.below ((qaa _ _).drew)
theorem Sl.new(w:World)(T:TypeId)(g:Nat)(xs:List Value)(cs:Array Value)(hg:g=w.heap.size)(hc:cs.toList=xs):Sl (w.alloc (.cells cs T)) (some ⟨g,0,none⟩) xs:=by
 subst hg hc;refine⟨fun _=>⟨_,_,rfl,by simp,fun j u hu=> ?_⟩⟩;have:=qbk (w.alloc (.cells cs T)) w.heap.size j cs T (0,0) (heap_alloc_new w _);rw[qay,this];simpa using hu
structure Strs (w:World) (A:Option Addr) (n:Nat) (ss:List ByteArray):Prop where
 sl:Sl w A (ss.map Value.string)
 len:ss.length=n
 n_le:n<=maxLen
 size:∀s∈ss,s.size<=maxLen
theorem Strs.get{w:World}{A:Option Addr}{n:Nat}{ss:List ByteArray}(h:Strs w A n ss){j:Nat}(hj:j<ss.length):∃b off,A=some ⟨b,off,none⟩/\b<w.heap.size/\w.cell? ⟨b,off+j,none⟩=some (.string ss[j]):=by
 obtain⟨b,off,e,z,y⟩:=h.sl.get (j:=j) (by simpa using hj);exact⟨b,off,e,z,by simpa using y⟩
theorem Strs.below{w w':World}{A:Option Addr}{n:Nat}{ss:List ByteArray}(h:Strs w A n ss)(hb:Below w.heap.size w w'):Strs w' A n ss:=⟨h.sl.below hb,h.len,h.n_le,h.size⟩
theorem Strs.alloc{w:World}{A:Option Addr}{n:Nat}{ss:List ByteArray}(h:Strs w A n ss)(o:Obj):Strs (w.alloc o) A n ss:=⟨h.sl.alloc o,h.len,h.n_le,h.size⟩
theorem Strs.new(w:World)(T:TypeId)(g n:Nat)(ss:List ByteArray)(cs:Array Value)(hg:g=w.heap.size)(hc:cs.toList=ss.map Value.string)(hn:ss.length=n)(hm:n<=maxLen)(hs:∀s∈ss,s.size<=maxLen):
  Strs (w.alloc (.cells cs T)) (some ⟨g,0,none⟩) n ss:=⟨Sl.new w T g _ cs hg hc,hn,hm,hs⟩
structure Ints (w:World) (k:IntKind) (A:Option Addr) (n:Nat) (zs:List Int):Prop where
 sl:Sl w A (zs.map (Value.int k))
 len:zs.length=n
 n_le:n<=maxLen
 wf:∀z∈zs,(Lit.int k z).wf=true
theorem Ints.get{w:World}{k:IntKind}{A:Option Addr}{n:Nat}{zs:List Int}(h:Ints w k A n zs){j:Nat}(hj:j<zs.length):∃b off,A=some ⟨b,off,none⟩/\b<w.heap.size/\w.cell? ⟨b,off+j,none⟩=some (.int k zs[j]):=by
 obtain⟨b,off,e,z,y⟩:=h.sl.get (j:=j) (by simpa using hj);exact⟨b,off,e,z,by simpa using y⟩
theorem Ints.below{w w':World}{k:IntKind}{A:Option Addr}{n:Nat}{zs:List Int}(h:Ints w k A n zs)(hb:Below w.heap.size w w'):Ints w' k A n zs:=⟨h.sl.below hb,h.len,h.n_le,h.wf⟩
theorem Ints.new(w:World)(T:TypeId)(k:IntKind)(g n:Nat)(zs:List Int)(cs:Array Value)(hg:g=w.heap.size)(hc:cs.toList=zs.map (Value.int k))(hn:zs.length=n)(hm:n<=maxLen)(hs:∀z∈zs,(Lit.int k z).wf=true):
  Ints (w.alloc (.cells cs T)) k (some ⟨g,0,none⟩) n zs:=⟨Sl.new w T g _ cs hg hc,hn,hm,hs⟩
section
variable {H:Type} {enc:TypeId×Value ->H} {P:Program} {w:World} {base:Nat} {spare:Nat ->Bool} {held:Bool}
end
end Go.Proofs.YtglmhddbhhcjdaaGreatDoor
namespace Go.Proofs.YtglmhddbhhcjdaaGreatDoor
open Go.RowKit
def Jli (x:Int) (c:UInt8):Int:=bits BinOp.xor IntKind.u32 x ((c.toNat:Int) % 4294967296)*16777619 % 4294967296
def Jf4:Int ->List UInt8 ->Int
 | x,[]=>x
 | x,c::l=>Jf4 (Jli x c) l
def hash (l:List UInt8):Int:=Jf4 2166136261 l
theorem Jmy(l:List UInt8)(x:Int)(c:UInt8):Jf4 x (l++[c])=Jli (Jf4 x l) c:=by
 induction l generalizing x with
 | nil=>rfl
 | cons a l ih=>exact ih _
theorem Jwo(l:List UInt8)(c:UInt8):hash (l++[c])=Jli (hash l) c:=Jmy _ _ _
theorem J1g(x:Int)(c:UInt8):0<=Jli x c/\Jli x c<4294967296:=by unfold Jli;omega
theorem Jq9(l:List UInt8)(x:Int)(h:0<=x/\x<4294967296):0<=Jf4 x l/\Jf4 x l<4294967296:=by
 induction l generalizing x with
 | nil=>exact h
 | cons a l ih=>exact ih _ (J1g x a)
theorem Jra(l:List UInt8):0<=hash l/\hash l<4294967296:=Jq9 l _ (by decide)
theorem Jaj{a b:Bool}(h:a=b):Ending.returned (.bool a)= .returned (.bool b):=by rw[h]
theorem Jbv{k:IntKind}{a b:Int}(h:a=b):Ending.returned (.int k a)= .returned (.int k b):=by rw[h]
theorem Jac(s:ByteArray):s.toList.length=s.size:=by rw[ByteArray.toList_eq];simp
theorem Jca(s:ByteArray)(k:Nat)(h:k<s.size):s.toList.take (k+1)=s.toList.take k++[s[k]]:=by
 rw[ByteArray.toList_eq,qam (by simpa using h)];rfl
theorem Jf5(s:ByteArray)(k:Nat)(h:k<s.size):s.toList[k]? =some s[k]:=by
 rw[ByteArray.toList_eq,qbw (by simpa using h)];rfl
def Jdl (c:Int):Bool:=decide ((97<=c/\c<=122)\/(48<=c/\c<=57)\/c=46\/c=95\/c=45)
theorem Jlq{c:Int}(h:(97<=c/\c<=122)\/(48<=c/\c<=57)\/c=46\/c=95\/c=45):Jdl c=true:=qa0 h
theorem Joi{c:Int}(h: ¬((97<=c/\c<=122)\/(48<=c/\c<=57)\/c=46\/c=95\/c=45)):Jdl c=false:=qat h
def Jbf (l:List UInt8):Bool:=l.all fun c=>Jdl c.toNat
def Jaf (l:List UInt8):Bool:=decide (1<=l.length/\l.length<=15) && Jbf l
theorem Jmz(l:List UInt8)(c:UInt8):Jbf (l++[c])=(Jbf l && Jdl c.toNat):=by simp[Jbf]
theorem Jiv(s:ByteArray)(k:Nat)(h:k<s.size):Jbf (s.toList.take (k+1))=(Jbf (s.toList.take k) && Jdl s[k].toNat):=by rw[Jca s k h,Jmz]
theorem Jjn(s:ByteArray)(k:Nat)(h:k<s.size)(hb:Jdl s[k].toNat=false):Jbf s.toList=false:=by
 have z:s[k]∈s.toList:=List.mem_of_getElem? (Jf5 s k h);cases hh:Jbf s.toList
 · rfl
 · unfold Jbf at hh;rw[qcw] at hh;have:=hh _ z;rw[hb] at this;cases this
theorem Jet(s:ByteArray)(h:s.size<1\/15<s.size):Jaf s.toList=false:=by
 unfold Jaf;rw[Jac,qat (by omega)];rfl
theorem Joj(s:ByteArray)(h:Jbf s.toList=false):Jaf s.toList=false:=by unfold Jaf;rw[h,Bool.and_false]
theorem Jso(s:ByteArray)(h1:1<=s.size)(h2:s.size<=15)(h:Jbf s.toList=true):Jaf s.toList=true:=by
 unfold Jaf;rw[h,Jac,qa0 (by omega)];rfl
theorem Jsp{α:Type}(f:α ->Bool)(l:List α)(k:Nat)(x:α)(ht:l.take (k+1)=l.take k++[x])(h:(l.take k).all f=true)(hx:f x=true):(l.take (k+1)).all f=true:=by rw[ht];simp[h,hx]
theorem Jie{α:Type}(f:α ->Bool)(l:List α)(x:α)(hm:x∈l)(hx:f x=false):l.all f=false:=by
 cases hh:l.all f
 · rfl
 · rw[qcw] at hh;have:=hh _ hm;rw[hx] at this;cases this
def Jcw (l:List UInt8) (n:Int):Int:=if n<1 then 0 else hash l % n
def cmpS (a b:List UInt8):Int:=if Op.bytesLess a b=true then -1 else if (!a==b)=true then 1 else 0
def cmpI (a b:Int):Int:=if a<b then -1 else if b<a then 1 else 0
def cmpR (a:List UInt8) (x:Int) (b:List UInt8) (y:Int):Int:=if cmpS a b=0 then cmpI x y else cmpS a b
theorem J5f(a b:List UInt8):Op.bytesLess a b=decide (a<b):=Go.Proofs.bytesLess_eq a b
theorem Jwp(a:List UInt8):Op.bytesLess a a=false:=by rw[J5f];simp
theorem J1h{a b c:List UInt8}(h:Op.bytesLess a b=true)(k:Op.bytesLess b c=true):Op.bytesLess a c=true:=by
 rw[J5f,decide_eq_true_iff] at*;exact List.lt_trans h k
theorem J1i{a b:List UInt8}(h:Op.bytesLess a b=false)(k:Op.bytesLess b a=false):a=b:=by
 rw[J5f,decide_eq_false_iff_not] at*;exact List.le_antisymm (List.not_lt.1 k) (List.not_lt.1 h)
def ahead (a:List UInt8) (x:Int) (b:List UInt8) (y:Int):Prop:=Op.bytesLess a b=true\/(a=b/\x<y)
theorem J1j(a:List UInt8)(x:Int)(b:List UInt8)(y:Int):cmpR a x b y<0↔ahead a x b y:=by
 unfold cmpR cmpS cmpI ahead;cases h:Op.bytesLess a b
 · by_cases e:a=b
   · subst e
     simp
     by_cases z:x<y
     · simp[z]
     · by_cases w:y<x<;>simp[z,w]
   · simp[e]
 · simp
def Jdm (a:List UInt8) (x:Int) (b:List UInt8) (y:Int):Bool:=decide (cmpR a x b y<0)
theorem Jb8(a:List UInt8)(x:Int)(b:List UInt8)(y:Int):Jdm a x b y=true↔ahead a x b y:=by
 unfold Jdm;rw[decide_eq_true_iff];exact J1j a x b y
theorem Jfh(a:List UInt8)(x:Int): ¬ ahead a x a x:=by
 unfold ahead;rw[Jwp];simp
theorem Jjo{a b c:List UInt8}{x y z:Int}(h:ahead a x b y)(k:ahead b y c z):ahead a x c z:=by
 rcases h with h | ⟨rfl,h⟩
 · rcases k with k | ⟨rfl,k⟩
   · exact .inl (J1h h k)
   · exact .inl h
 · rcases k with k | ⟨rfl,k⟩
   · exact .inl k
   · exact .inr ⟨rfl,by omega⟩
theorem Jjp{a b:List UInt8}{x y:Int}(h: ¬ ahead a x b y)(k: ¬ ahead b y a x):a=b/\x=y:=by
 unfold ahead at h k
 have e:a=b:=by
  apply J1i
  · cases hh:Op.bytesLess a b
    · rfl
    · exact absurd (.inl hh) h
  · cases hh:Op.bytesLess b a
    · rfl
    · exact absurd (.inl hh) k
 subst e;refine⟨rfl,?_⟩;have z: ¬ x<y:=fun hh=>h (.inr ⟨rfl,hh⟩);have w: ¬ y<x:=fun hh=>k (.inr ⟨rfl,hh⟩);omega
theorem Jm0(a:List UInt8)(x:Int):Jdm a x a x=false:=by
 cases h:Jdm a x a x
 · rfl
 · exact absurd ((Jb8 _ _ _ _).1 h) (Jfh a x)
theorem Jiw{a b c:List UInt8}{x y z:Int}(h:Jdm a x b y=true)(k:Jdm b y c z=true):Jdm a x c z=true:=
 (Jb8 _ _ _ _).2 (Jjo ((Jb8 _ _ _ _).1 h) ((Jb8 _ _ _ _).1 k))
theorem Jok{a b:List UInt8}{x y:Int}(h:Jdm a x b y=false)(k:Jdm b y a x=false):a=b/\x=y:=
 Jjp (fun hh=>by rw[(Jb8 _ _ _ _).2 hh] at h;cases h) (fun hh=>by rw[(Jb8 _ _ _ _).2 hh] at k;cases k)
end Go.Proofs.YtglmhddbhhcjdaaGreatDoor
namespace Go.Proofs.YtglmhddbhhcjdaaGreatDoor
def le:Nat ->Nat ->List UInt8
 | 0,_=>[]
 | k+1,v=>UInt8.ofNat v::le k (v / 256)
def leN:List UInt8 ->Nat
 | []=>0
 | c::r=>c.toNat+256*leN r
@[simp] theorem Ja0(k v:Nat):(le k v).length=k:=by
 induction k generalizing v with
 | zero=>rfl
 | succ k ih=>simp[le,ih]
theorem Jsq(v:Nat):(UInt8.ofNat v).toNat=v % 256:=by simp
theorem J75(k v:Nat):leN (le k v)=v % 256 ^ k:=by
 induction k generalizing v with
 | zero=>simp[le,leN,Nat.mod_one]
 | succ k ih=>rw[le,leN,ih,Jsq,Nat.pow_succ,Nat.mul_comm (256 ^ k) 256,Nat.mod_mul]
theorem Jdb{k v:Nat}(h:v<256 ^ k):leN (le k v)=v:=by rw[J75,Nat.mod_eq_of_lt h]
theorem Jol(l:List UInt8):leN l<256 ^ l.length:=by
 induction l with
 | nil=>simp[leN]
 | cons c r ih=>
   have h:=c.toNat_lt;rw[leN,qbr,Nat.pow_succ];omega
theorem J76(l:List UInt8):le l.length (leN l)=l:=by
 induction l with
 | nil=>rfl
 | cons c r ih=>
   have h:=c.toNat_lt;rw[qbr,leN,le,show(c.toNat+256*leN r) / 256=leN r by omega,ih]
   congr 1
   apply UInt8.toNat_inj.1;rw[Jsq];omega
theorem le_succ(k v:Nat):le (k+1) v=le k v++[UInt8.ofNat (v / 256 ^ k)]:=by
 induction k generalizing v with
 | zero=>simp[le]
 | succ k ih=>
   rw[le,ih,le,qbt,Nat.div_div_eq_div_mul,Nat.pow_succ,Nat.mul_comm 256]
theorem J1k(l:List UInt8)(c:UInt8):leN (l++[c])=leN l+256 ^ l.length*c.toNat:=by
 induction l with
 | nil=>simp[leN]
 | cons d r ih=>
   rw[qbt,leN,leN,ih,qbr,Nat.pow_succ,Nat.mul_add,<- Nat.mul_assoc,Nat.mul_comm (256 ^ r.length) 256];omega
theorem Jrb(k:Nat):256 ^ k=2 ^ (8*k):=by rw[Nat.pow_mul]
theorem J77(l:List UInt8)(c:UInt8):leN l ||| (c.toNat*2 ^ (8*l.length))=leN (l++[c]):=by
 have h:=Jol l;rw[Jrb] at h;rw[J1k,Jrb,Nat.mul_comm c.toNat,Nat.or_comm,<- Nat.two_pow_add_eq_or_of_lt h];omega
def u64 (n:Int):Nat:=(n % 18446744073709551616).toNat
theorem J4y(n:Int):u64 n<256 ^ 8:=by unfold u64;omega
def i64 (v:Nat):Int:=if (v:Int)<9223372036854775808 then v else (v:Int) - 18446744073709551616
theorem J5g{n:Int}(h: -9223372036854775808<=n/\n<=9223372036854775807):i64 (u64 n)=n:=by
 unfold i64 u64;split<;>omega
end Go.Proofs.YtglmhddbhhcjdaaGreatDoor
