/-
  Several texts in one: PolR, Pack, PolNumber.
-/
import Derived.Lib.Strings
import Derived.Lib.ItoaNum
import Derived.Lib.AppendIntMem
import Derived.Test.YtglmhddbhhcjdaaGreatDoorV10
import Derived.Test.YtglmhddbhhcjdaaGreatDoorV4
import Derived.Test.YtglmhddbhhcjdaaGreatDoorV6
set_option maxRecDepth 100000
set_option linter.unusedSimpArgs false
set_option maxHeartbeats 4000000
namespace Go.Proofs.YtglmhddbhhcjdaaGreatDoor.Py
open Go.RowKit
def digB (c:UInt8):Bool:=decide (48<=c.toNat) && decide (c.toNat<=57)
def numN (l:List UInt8):Nat:=l.foldl (fun n c=>10*n+(c.toNat - 48)) 0
theorem Jfp(l:List UInt8)(c:UInt8):numN (l++[c])=10*numN l+(c.toNat - 48):=by simp[numN,qb0]
def Jff (d:List UInt8) (below:Bool):Bool:=decide (d.length=0) || (decide (18<d.length) || (d.head? ==some 48 && (decide (1<d.length) || below)))
def numR (s:List UInt8):Option Int:=
 if Jff (Lib.trimPrefix s [45]) (Lib.hasPrefix s [45])=true then none
 else if (Lib.trimPrefix s [45]).all digB=true then some (if Lib.hasPrefix s [45]=true then -(numN (Lib.trimPrefix s [45]):Int) else numN (Lib.trimPrefix s [45]))
 else none
def numV:Option Int ->Value
 | some n=> .tuple #[(n:Int),(0:Int)]
 | none=> .tuple #[(0:Int),(1:Int)]
theorem Jg4:∀ (l:List UInt8),l.all digB=true ->numN l<10 ^ l.length:=by
 intro l;obtain⟨m,rfl⟩:∃m:List UInt8,l=m.reverse:=⟨l.reverse,by simp⟩
 induction m with
 | nil=>intro _;simp[numN]
 | cons c r ih=>
   intro h;rw[qbw,List.all_append,qb5] at h;have y:=ih h.1;have z:digB c=true:=by simpa using h.2
   unfold digB at z;simp only[qb5,qba] at z;rw[qbw,Jfp,qad,qa3,qbn,qa9,Nat.pow_succ];omega
theorem J6i{s:List UInt8}{n:Int}(h:numR s=some n): -1000000000000000000<n/\n<1000000000000000000:=by
 unfold numR at h;split at h
 · cases h
 · next hb=>
   split at h
   · next ha=>
     have y:=Jg4 _ ha
     have z:(Lib.trimPrefix s [45]).length<=18:=by
      unfold Jff at hb;simp only[Bool.or_eq_true,qba,not_or] at hb;omega
     have x:10 ^ (Lib.trimPrefix s [45]).length<=10 ^ 18:=qcl (by omega) z;have w:(10:Nat) ^ 18=1000000000000000000:=(by decide);injection h with h;split at h<;>omega
   · cases h
def Jc6:List UInt8:=[112,111,108,105,99,121]
def Jg5:List UInt8:=[116,105,101,114]
def Jcm:List UInt8:=[101,118,101,114,121]
def Jfh:List UInt8:=[107,101,101,112]
def Jbt:List UInt8:=[115,104,97,114,100,115]
def txt (g:List (List UInt8)) (i:Nat):List UInt8:=g.getD i []
def txts (l:List Wd):List (List UInt8):=l.map Wd.text
theorem J5q{l:List Wd}{i:Nat}(h:i<l.length):txt (txts l) i=l[i].text:=by simp[txt,txts,List.getD,qam h]
def Jhr (g:List (List UInt8)) (i:Nat) (what:List UInt8):Bool:=(txt g i==what) && (numR (txt g (i+1))).isSome
def Jhs (g:List (List UInt8)) (i:Nat):Int:=(numR (txt g (i+1))).getD 0
def Jfg (g:List (List UInt8)):Bool:=decide (g.length=2) && (txt g 0==Jc6)
def Jda (g:List (List UInt8)) (n:Nat):Bool:=(decide (g.length=8) && ((txt g 0==Jg5) && !decide (n=5))) && (Jhr g 2 Jcm && (Jhr g 4 Jfh && Jhr g 6 Jbt))
def Jni (g:List (List UInt8)):Ti:=⟨⟨(txt g 1).toArray⟩,Jhs g 2,Jhs g 4,Jhs g 6⟩
def Jdo (l:List Wd):List Wd:=match l with
 | []=>[]
 | x::_=>l.takeWhile (fun y=>decide (y.line=x.line))
def Jth (l:List Wd):List Wd:=l.drop (Jdo l).length
inductive Rd where
 | bad (e at_:Int)
 | good (nm:List UInt8) (ts:List Ti)
def Jcn (l:List Wd):Int:=match l with
 | []=>1
 | x::_=>x.line
def Jgw (nm:List UInt8):Nat ->List Wd ->List Ti ->Rd
 | 0,_,acc=> .good nm acc
 | f+1,l,acc=>if l=[] then .good nm acc else if Jda (txts (Jdo l)) acc.length=true then Jgw nm f (Jth l) (acc++[Jni (txts (Jdo l))]) else .bad 22 (Jcn l)
def Jdb (l:List Wd):Rd:=if Jfg (txts (Jdo l))=true then Jgw (txt (txts (Jdo l)) 1) l.length (Jth l) [] else .bad 22 (Jcn l)
def Jdp (s:ByteArray):Rd:=
 if 4000<s.size then .bad 2 0 else if cutE 1 (Jb5 s)≠0 then .bad 22 (cutE 1 (Jb5 s)) else Jdb (cutW 1 (Jb5 s))
theorem Jvh(l:List Wd)(h:l≠[]):1<=(Jdo l).length:=by
 match l,h with
 | x::r,_=>unfold Jdo;simp
theorem Jnj(g:List (List UInt8))(i:Nat): -9223372036854775808<=Jhs g i/\Jhs g i<=9223372036854775807:=by
 unfold Jhs;cases h:numR (txt g (i+1)) with
 | none=>simp
 | some n=>have:=J6i h;simp;omega
theorem Jlv{c:UInt8}(h:(c.toNat:Int)<48\/57<(c.toNat:Int)):digB c=false:=by
 unfold digB;rcases h with h | h
 · rw[qae (by omega)];rfl
 · rw[qae (show ¬ c.toNat<=57 by omega)];simp
theorem Jry{c:UInt8}(h1:48<=(c.toNat:Int))(h2:(c.toNat:Int)<=57):digB c=true:=by
 unfold digB;rw[qan (by omega),qan (by omega)];rfl
theorem Jin{s:ByteArray}{k:Nat}(h:k<s.size)(hb:digB s[k]=false):s.toList.all digB=false:=by
 cases hh:s.toList.all digB
 · rfl
 · rw[qdq] at hh
   have:=hh _ (List.mem_of_getElem? (Jf9 s k h));rw[hb] at this;cases this
theorem Jfq{s:ByteArray}{k:Nat}(h:k<s.size)(ha:(s.toList.take k).all digB=true)(hb:digB s[k]=true):(s.toList.take (k+1)).all digB=true:=by
 rw[Jcd s k h,List.all_append,ha];simp[hb]
theorem J6j{s:ByteArray}(h:0<s.size):s.toList.head? =some s[0]:=by
 rw[List.head?_eq_getElem?,Jf9 s 0 h]
theorem J2t{s d:List UInt8}{b:Bool}(hd:Lib.trimPrefix s [45]=d)(hb:Lib.hasPrefix s [45]=b)(h:Jff d b=true):numR s=none:=by
 unfold numR;rw[hd,hb,qa2 h]
theorem J2u{s d:List UInt8}{b:Bool}(hd:Lib.trimPrefix s [45]=d)(hb:Lib.hasPrefix s [45]=b)(h:d.all digB=false):numR s=none:=by
 unfold numR;rw[hd,hb];split
 · rfl
 · rw[qav (by rw[h];decide)]
theorem J6k{s d:List UInt8}{b:Bool}(hd:Lib.trimPrefix s [45]=d)(hb:Lib.hasPrefix s [45]=b)(h:Jff d b=false)(h2:d.all digB=true):numR s=some (if b=true then -(numN d:Int) else numN d):=by
 unfold numR;rw[hd,hb,qav (by rw[h];decide),qa2 h2]
theorem int_eq{k:IntKind}{a b:Int}(h:a=b):Value.int k a= .int k b:=by rw[h]
theorem Jrz{a b:Option Int}(h:a=b):numV a=numV b:=by rw[h]
theorem Jvi(s:ByteArray)(w:World):
  Cs 318 #[s] w (RS w (numV (numR s.toList))):=by
 obtain⟨d,J⟩:∃d:ByteArray,d=⟨(Lib.trimPrefix s.data.toList [45]).toArray⟩:=⟨_,rfl⟩;obtain⟨b,f⟩:∃b,b=Lib.hasPrefix s.data.toList [45]:=⟨_,rfl⟩;have R:Lib.trimPrefix s.toList [45]=d.toList:=by rw[J,qau,qau]
 have P:Lib.hasPrefix s.toList [45]=b:=by rw[f,qau]
 have V:=zI (fun h=>Jrz (J2t R P h));have U:=zI (fun h=>Jrz (J2u R P h));have M:=zI (fun h S=>Jrz (J6k R P h S));have HC:=zI (fun W=>Tryz.strings_CutPrefix s ⟨#[45]⟩ W)
 have Z:Hid (∀W,Cs 379 #[s,.string ⟨#[45]⟩] W (RS W (.tuple #[(d:ByteArray),b]))):=zI (fun W=>by
  rw[J,f];exact(HC.out W).mono fun e w' h=>by first | exact⟨h.1,h.2.symm⟩ | exact⟨h.1,h.2⟩)
 have Y:d.toList.length=d.size:=Jac d;clear R P J f HC;by_cases h0:d.size=0
 · have t:=zI (V.out (by unfold Jff;rw[Y,h0];rfl))
   go_enter Tryz.func318,Tryz.ntmps318;go_wp2_with (go_at_call 379;refine(Z.out _).mono ?_;rintro e w1 ⟨rfl,rfl⟩)
   go_ret2;exact⟨by rw[t.out];rfl,rfl⟩
 by_cases L:18<d.size
 · have t:=zI (V.out (by unfold Jff;rw[Y,qan L];simp))
   have Hc:((d.size:Int)==0)=false:=qaw.2 (by omega);go_enter Tryz.func318,Tryz.ntmps318;go_wp2_with (go_at_call 379;refine(Z.out _).mono ?_;rintro e w1 ⟨rfl,rfl⟩)
   go_ret2;exact⟨by rw[t.out];rfl,rfl⟩
 have hp:0<d.size:=by omega
 have hh:=J6j hp;by_cases O:Jff d.toList b=true
 · have t:=zI (V.out O)
   have o:(d[0].toNat:Int)=48/\(1<d.size\/b=true):=by
    unfold Jff at O;rw[Y,hh,qae h0,qae L] at O;simp only[Bool.false_or,qb5,Bool.or_eq_true,qba,beq_iff_eq,Option.some.injEq] at O;exact⟨by rw[O.1];rfl,O.2⟩
   obtain⟨o,h1⟩:=o;clear O;go_enter Tryz.func318,Tryz.ntmps318;cases b
   · have Ha:1<d.size:=by simpa using h1
     go_wp2_with (go_at_call 379;refine(Z.out _).mono ?_;rintro e w1 ⟨rfl,rfl⟩)
     go_ret2;exact⟨by rw[t.out];rfl,rfl⟩
   · by_cases Ha:1<d.size
     all_goals
      go_wp2_with (go_at_call 379;refine(Z.out _).mono ?_;rintro e w1 ⟨rfl,rfl⟩)
      go_ret2;exact⟨by rw[t.out];rfl,rfl⟩
 have K:Jff d.toList b=false:=by simpa using O
 clear O
 have I: ¬ (d[0].toNat:Int)=48\/(¬ 1<d.size/\b=false):=by
  have S:=K;unfold Jff at S;rw[Y,hh,qae h0,qae L] at S;simp only[Bool.false_or,Bool.and_eq_false_iff,qdj,decide_eq_false_iff_not,qaw,ne_eq,Option.some.injEq] at S;rcases S with S | S
  · exact .inl (fun e=>S (UInt8.toNat_inj.1 (by have:(48:UInt8).toNat=48:=rfl;omega)))
  · exact .inr S
 have HZ:=zI K;clear K hh;have z0:((d.size:Int)==0)=false:=qaw.2 (by omega);have z18:decide (18<(d.size:Int))=false:=qae (by omega);have N:=zI I;clear I;go_enter Tryz.func318,Tryz.ntmps318;cases b
 · have Hb: ¬ (d[0].toNat:Int)=48\/(¬ 1<d.size/\(d[0].toNat:Int)=48):=by
    by_cases o:(d[0].toNat:Int)=48
    · rcases N.out with h | h
      · exact absurd o h
      · exact .inr ⟨h.1,o⟩
    · exact .inl o
   clear N;rcases Hb with o | ⟨h1,o⟩
   · have H:((d[0].toNat:Int)==48)=false:=qaw.2 o
     go_wp2_with (go_at_call 379;refine(Z.out _).mono ?_;rintro e w1 ⟨rfl,rfl⟩)
     go_loop [6,7,36] (fun n _ i=>∃k:Nat,k<=d.size/\i= .int .i64 k/\n= .int .i64 (numN (d.toList.take k))/\(d.toList.take k).all digB=true) (fun _ _ i=>d.size - (intOf i).toNat)
     case atStart=>exact⟨0,qaq _,rfl,rfl,rfl⟩
     case round=>
      obtain⟨k,hk,rfl,rfl,z⟩:=hrel;have G:=zI z;by_cases m:k<d.size
      · have F:=zI (Jcd d k m)
        have y:=Jg4 _ z;have j:(d.toList.take k).length=k:=by rw[qap,Jac];omega
        rw[j] at y;have v:10 ^ k<=10 ^ 17:=qcl (by omega) (by omega);have g:(10:Nat) ^ 17=100000000000000000:=(by decide);rw[g] at v;have hu:d[k].toNat<=255:=by have:=d[k].toNat_lt;omega
        have E:=zI (Jfp (d.toList.take k) d[k]);have x:=zI (fun f=>Jfq m G.out f);have u:=zI (fun f=>U.out (Jin m f));obtain⟨q,l⟩:∃q,numN (d.toList.take k)=q:=⟨_,rfl⟩;rw[l] at y;rw[l];have D:=zI l;clear z j g l;by_cases a:(d[k].toNat:Int)<48
        · have t:=zI (u.out (Jlv (.inl a)))
          clear x u;go_wp2;go_ret2;exact⟨by rw[t.out];rfl,rfl⟩
        by_cases c:57<(d[k].toNat:Int)
        · have t:=zI (u.out (Jlv (.inr c)))
          clear x u;go_wp2;go_ret2;exact⟨by rw[t.out];rfl,rfl⟩
        have C:=zI (x.out (Jry (by omega) (by omega)));have T:IntKind.u8.wrap ((d[k].toNat:Int) - 48)=(d[k].toNat:Int) - 48:=by simp[IntKind.wrap,IntKind.bits,IntKind.signed];omega
        have B:IntKind.i64.wrap (10*(q:Int))=10*(q:Int):=qbd _ (by omega);have A:IntKind.i64.wrap ((d[k].toNat:Int) - 48)=(d[k].toNat:Int) - 48:=qbd _ (by omega);have hJ:IntKind.i64.wrap (10*(q:Int)+((d[k].toNat:Int) - 48))=10*(q:Int)+((d[k].toNat:Int) - 48):=qbd _ (by omega);clear x u;go_wp2;go_round
        case rel=>
         refine⟨k+1,by omega,by go_num,?_,C.out⟩;rw[F.out,E.out,D.out];exact int_eq (by omega)
        case measure=>simp[intOf];omega
      · have r:=zI (show d.toList.all digB=true from by rwa [qao (by rw[Jac];omega)] at z)
        have J:decide ((k:Int)<(d.size:Int))=false:=qae (by omega);have t:=zI (M.out HZ.out r.out);have HT:=zI (show d.toList.take k=d.toList from qao (by rw[Jac];omega));have y:=Jg4 _ r.out;rw[Jac] at y;have v:10 ^ d.size<=10 ^ 18:=qcl (by omega) (by omega);have p:(10:Nat) ^ 18=1000000000000000000:=(by decide);rw[p] at v;rw[HT.out];obtain⟨q,l⟩:∃q,numN d.toList=q:=⟨_,rfl⟩;rw[l] at y t ⊢;have T:IntKind.i64.wrap (-(q:Int))= -(q:Int):=qbd _ (by omega);clear z p l;go_wp2;go_ret2;exact⟨by rw[t.out];rfl,rfl⟩
   · have z1:decide (1<(d.size:Int))=false:=qae (by omega)
     go_wp2_with (go_at_call 379;refine(Z.out _).mono ?_;rintro e w1 ⟨rfl,rfl⟩)
     go_loop [6,7,36] (fun n _ i=>∃k:Nat,k<=d.size/\i= .int .i64 k/\n= .int .i64 (numN (d.toList.take k))/\(d.toList.take k).all digB=true) (fun _ _ i=>d.size - (intOf i).toNat)
     case atStart=>exact⟨0,qaq _,rfl,rfl,rfl⟩
     case round=>
      obtain⟨k,hk,rfl,rfl,z⟩:=hrel;have G:=zI z;by_cases m:k<d.size
      · have F:=zI (Jcd d k m)
        have y:=Jg4 _ z;have j:(d.toList.take k).length=k:=by rw[qap,Jac];omega
        rw[j] at y;have v:10 ^ k<=10 ^ 17:=qcl (by omega) (by omega);have g:(10:Nat) ^ 17=100000000000000000:=(by decide);rw[g] at v;have hu:d[k].toNat<=255:=by have:=d[k].toNat_lt;omega
        have E:=zI (Jfp (d.toList.take k) d[k]);have x:=zI (fun f=>Jfq m G.out f);have u:=zI (fun f=>U.out (Jin m f));obtain⟨q,l⟩:∃q,numN (d.toList.take k)=q:=⟨_,rfl⟩;rw[l] at y;rw[l];have D:=zI l;clear z j g l;by_cases a:(d[k].toNat:Int)<48
        · have t:=zI (u.out (Jlv (.inl a)))
          clear x u;go_wp2;go_ret2;exact⟨by rw[t.out];rfl,rfl⟩
        by_cases c:57<(d[k].toNat:Int)
        · have t:=zI (u.out (Jlv (.inr c)))
          clear x u;go_wp2;go_ret2;exact⟨by rw[t.out];rfl,rfl⟩
        have C:=zI (x.out (Jry (by omega) (by omega)));have T:IntKind.u8.wrap ((d[k].toNat:Int) - 48)=(d[k].toNat:Int) - 48:=by simp[IntKind.wrap,IntKind.bits,IntKind.signed];omega
        have B:IntKind.i64.wrap (10*(q:Int))=10*(q:Int):=qbd _ (by omega);have A:IntKind.i64.wrap ((d[k].toNat:Int) - 48)=(d[k].toNat:Int) - 48:=qbd _ (by omega);have hJ:IntKind.i64.wrap (10*(q:Int)+((d[k].toNat:Int) - 48))=10*(q:Int)+((d[k].toNat:Int) - 48):=qbd _ (by omega);clear x u;go_wp2;go_round
        case rel=>
         refine⟨k+1,by omega,by go_num,?_,C.out⟩;rw[F.out,E.out,D.out];exact int_eq (by omega)
        case measure=>simp[intOf];omega
      · have r:=zI (show d.toList.all digB=true from by rwa [qao (by rw[Jac];omega)] at z)
        have J:decide ((k:Int)<(d.size:Int))=false:=qae (by omega);have t:=zI (M.out HZ.out r.out);have HT:=zI (show d.toList.take k=d.toList from qao (by rw[Jac];omega));have y:=Jg4 _ r.out;rw[Jac] at y;have v:10 ^ d.size<=10 ^ 18:=qcl (by omega) (by omega);have p:(10:Nat) ^ 18=1000000000000000000:=(by decide);rw[p] at v;rw[HT.out];obtain⟨q,l⟩:∃q,numN d.toList=q:=⟨_,rfl⟩;rw[l] at y t ⊢;have T:IntKind.i64.wrap (-(q:Int))= -(q:Int):=qbd _ (by omega);clear z p l;go_wp2;go_ret2;exact⟨by rw[t.out];rfl,rfl⟩
 · have o: ¬ (d[0].toNat:Int)=48:=by
    rcases N.out with h | h
    · exact h
    · exact absurd h.2 (by decide)
   have H:((d[0].toNat:Int)==48)=false:=qaw.2 o;clear N;go_wp2_with (go_at_call 379;refine(Z.out _).mono ?_;rintro e w1 ⟨rfl,rfl⟩)
   go_loop [6,7,36] (fun n _ i=>∃k:Nat,k<=d.size/\i= .int .i64 k/\n= .int .i64 (numN (d.toList.take k))/\(d.toList.take k).all digB=true) (fun _ _ i=>d.size - (intOf i).toNat)
   case atStart=>exact⟨0,qaq _,rfl,rfl,rfl⟩
   case round=>
    obtain⟨k,hk,rfl,rfl,z⟩:=hrel;have G:=zI z;by_cases m:k<d.size
    · have F:=zI (Jcd d k m)
      have y:=Jg4 _ z;have j:(d.toList.take k).length=k:=by rw[qap,Jac];omega
      rw[j] at y;have v:10 ^ k<=10 ^ 17:=qcl (by omega) (by omega);have g:(10:Nat) ^ 17=100000000000000000:=(by decide);rw[g] at v;have hu:d[k].toNat<=255:=by have:=d[k].toNat_lt;omega
      have E:=zI (Jfp (d.toList.take k) d[k]);have x:=zI (fun f=>Jfq m G.out f);have u:=zI (fun f=>U.out (Jin m f));obtain⟨q,l⟩:∃q,numN (d.toList.take k)=q:=⟨_,rfl⟩;rw[l] at y;rw[l];have D:=zI l;clear z j g l;by_cases a:(d[k].toNat:Int)<48
      · have t:=zI (u.out (Jlv (.inl a)))
        clear x u;go_wp2;go_ret2;exact⟨by rw[t.out];rfl,rfl⟩
      by_cases c:57<(d[k].toNat:Int)
      · have t:=zI (u.out (Jlv (.inr c)))
        clear x u;go_wp2;go_ret2;exact⟨by rw[t.out];rfl,rfl⟩
      have C:=zI (x.out (Jry (by omega) (by omega)));have T:IntKind.u8.wrap ((d[k].toNat:Int) - 48)=(d[k].toNat:Int) - 48:=by simp[IntKind.wrap,IntKind.bits,IntKind.signed];omega
      have B:IntKind.i64.wrap (10*(q:Int))=10*(q:Int):=qbd _ (by omega);have A:IntKind.i64.wrap ((d[k].toNat:Int) - 48)=(d[k].toNat:Int) - 48:=qbd _ (by omega);have hJ:IntKind.i64.wrap (10*(q:Int)+((d[k].toNat:Int) - 48))=10*(q:Int)+((d[k].toNat:Int) - 48):=qbd _ (by omega);clear x u;go_wp2;go_round
      case rel=>
       refine⟨k+1,by omega,by go_num,?_,C.out⟩;rw[F.out,E.out,D.out];exact int_eq (by omega)
      case measure=>simp[intOf];omega
    · have r:=zI (show d.toList.all digB=true from by rwa [qao (by rw[Jac];omega)] at z)
      have J:decide ((k:Int)<(d.size:Int))=false:=qae (by omega);have t:=zI (M.out HZ.out r.out);have HT:=zI (show d.toList.take k=d.toList from qao (by rw[Jac];omega));have y:=Jg4 _ r.out;rw[Jac] at y;have v:10 ^ d.size<=10 ^ 18:=qcl (by omega) (by omega);have p:(10:Nat) ^ 18=1000000000000000000:=(by decide);rw[p] at v;rw[HT.out];obtain⟨q,l⟩:∃q,numN d.toList=q:=⟨_,rfl⟩;rw[l] at y t ⊢;have T:IntKind.i64.wrap (-(q:Int))= -(q:Int):=qbd _ (by omega);clear z p l;go_wp2;go_ret2;exact⟨by rw[t.out];rfl,rfl⟩
theorem Jvj(n:Int)(w:World)(h0: -9223372036854775808<=n)(h1:n<=9223372036854775807)(htab:Lib.TabIs Tryz.prog w "internal/strconv.uint64pow10" .u64 Lib.pow10Tab):
  Cs 386 #[(n:Int)] w (RB w (.string ⟨(Lib.itoa n).toArray⟩)):=by
 go_enter Tryz.func386,Tryz.ntmps386;go_wp2_with (go_at_call 411;refine(Tryz.strconv_Itoa n h0 h1 _ htab).mono ?_;rintro e w1 ⟨rfl,k,os,rfl⟩)
 go_ret;exact⟨rfl,Lib.below_grow _ _ (qab _) _ _⟩
def J6l (tb what:ByteArray) (r:Option Int):Bool:=(tb.toList==what.toList) && r.isSome
theorem J6m(b off n c:Nat)(t0 t1 what:ByteArray)(w:World)(hn:2<=n)(h0:w.cell? ⟨b,off,none⟩=some (.string t0))(h1:w.cell? ⟨b,off+3,none⟩=some (.string t1)):
  Cs 253 #[.slice (some ⟨b,off,none⟩) n c,what] w (RS w (.tuple #[((numR t1.toList).getD 0:Int),(J6l t0 what (numR t1.toList))])):=by
 have z:=zI (fun W=>Jvi t1 W);have g1:(1:Int)<(n:Int):=by omega
 have g0:(0:Int)<(n:Int):=by omega
 unfold J6l;cases hr:numR t1.toList with
 | none=>
   rw[hr] at z;unfold numV at z;cases hq:(t0.toList==what.toList)
   all_goals
    go_enter Tryz.func253,Tryz.ntmps253;go_wp2_with (go_at_call 318;refine(z.out _).mono ?_;rintro e w1 ⟨rfl,rfl⟩)
    go_ret2;exact⟨rfl,rfl⟩
 | some v=>
   rw[hr] at z;unfold numV at z;cases hq:(t0.toList==what.toList)
   all_goals
    go_enter Tryz.func253,Tryz.ntmps253;go_wp2_with (go_at_call 318;refine(z.out _).mono ?_;rintro e w1 ⟨rfl,rfl⟩)
    go_ret2;exact⟨rfl,rfl⟩
end Go.Proofs.YtglmhddbhhcjdaaGreatDoor.Py
