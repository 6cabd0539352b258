/-
  Several texts in one: Savp, Scat.
-/
import Derived.Test.YtglmhddbhhcjdaaGreatDoorV34
import Derived.Test.YtglmhddbhhcjdaaGreatDoorV36
set_option maxRecDepth 100000
set_option linter.unusedSimpArgs false
set_option maxHeartbeats 4000000
namespace Go.Proofs.YtglmhddbhhcjdaaGreatDoor
open Go.RowKit
structure SvV where
 id:Nat
 us:List Int
 f:Int ->Option ByteArray
 es:List En
def SvV.bl (D N:Nat) (v:SvV) (x:Wv):List Int:=Jln D N v.us (sgN x.2.2.length)
def SvV.en (D N:Nat) (v:SvV) (x:Wv):En:=⟨v.id+1,x.1,x.2.1,v.bl D N x⟩
def SvV.put (D N:Nat) (v:SvV) (x:Wv):SvV:=
 ⟨v.id+1,Led.insAll v.us (v.bl D N x),putB v.f (v.bl D N x) (sgL (v.id+1) x.1 x.2.1 x.2.2),v.es++[v.en D N x]⟩
def needW (xs:List Wv):Nat:=(xs.map fun x=>sgN x.2.2.length).sum
theorem Jmp(xs:List Wv)(x:Wv):needW (xs++[x])=needW xs+sgN x.2.2.length:=by simp[needW]
theorem Jwd(xs:List Wv)(k:Nat):needW (xs.take k)<=needW xs:=by
 induction xs generalizing k with
 | nil=>simp[needW]
 | cons a r ih=>
   cases k with
   | zero=>simp[needW]
   | succ k=>
     have:=ih k;simp only[needW,List.take_succ_cons,qby,qc7] at*;omega
theorem Jgn:∀ (zs:List Int) (ss:List ByteArray) (f:Int ->Option ByteArray) (z:Int),z∉zs ->putB f zs ss z=f z
 | [],_,_,_,_=>rfl
 | _::_,[],_,_,_=>rfl
 | a::zs,s::ss,f,z,h=>by
   show putB (setS f a s) zs ss z=f z;rw[Jgn zs ss _ z (fun h1=>h (qc6 _ h1))];unfold setS;rw[qav (fun e=>h (by rw[e];exact List.mem_cons_self))]
theorem Jul:∀ (zs:List Int) (ss:List ByteArray) (f:Int ->Option ByteArray),zs.Nodup ->zs.length=ss.length ->∀j (hj:j<zs.length),putB f zs ss zs[j]=ss[j]?
 | [],_,_,_,_,_,hj=>by simp at hj
 | _::_,[],_,_,h,_,_=>by simp at h
 | a ::zs,s::ss,f,hn,hl,j,hj=>by
   have z:=List.nodup_cons.1 hn;cases j with
   | zero=>
     show putB (setS f a s) zs ss a=_;rw[Jgn zs ss _ a z.1];simp[setS]
   | succ j=>
     show putB (setS f a s) zs ss (zs[j]'(by simpa using hj))=_;rw[Jul zs ss _ z.2 (by simpa using hl) j (by simpa using hj)]
     simp
def J98 (f:Int ->Option ByteArray) (e:En) (l:List Rc):Prop:=∀j (hj:j<e.bl.length),f e.bl[j]=(sgL e.id e.tier e.shard l)[j]?
structure SvG (D N:Nat) (v0:SvV) (xs:List Wv) (v:SvV):Prop where
 len:v.us.length<=v0.us.length+needW xs
 id:v.id=v0.id+xs.length
 es:v.es.length=xs.length
 ids:∀e∈v.es,1<=e.id/\e.id<=v.id
 sub:∀z∈v.es.flatMap En.bl,z∈v.us
 us:∀z∈v0.us,z∈v.us
 nodup:(v.es.flatMap En.bl).Nodup
 bl:∀e∈v.es,∀z∈e.bl,(D:Int)<=z/\z<(N:Int)
 at_:∀j (h1:j<v.es.length) (h2:j<xs.length),(v.es[j]).tier=xs[j].1/\(v.es[j]).shard=xs[j].2.1/\(v.es[j]).bl.length=sgN xs[j].2.2.length/\J98 v.f v.es[j] xs[j].2.2
 low:∀z,z<(D:Int) ->v.f z=v0.f z
theorem SvG.start(D N:Nat)(v:SvV)(h:v.es=[]):SvG D N v [] v:=
 ⟨by simp[needW],by simp,by rw[h];rfl,by rw[h];simp,by rw[h];simp,fun z h=>h,by rw[h];simp,by rw[h];simp,fun j h1 h2=>by simp at h2,fun _ _=>rfl⟩
theorem SvG.put{D N:Nat}{v0 v:SvV}{xs:List Wv}(h:SvG D N v0 xs v)(x:Wv)(hD:D<=N)(hO:Led.DrawLaw (D:Int) ((N - D:Nat):Int) v.us (sgN x.2.2.length:Int) (v.bl D N x)):SvG D N v0 (xs++[x]) (v.put D N x):=by
 have o:(v.bl D N x).length=sgN x.2.2.length:=by have:=hO.len;omega
 have s:∀e∈v.es,∀z∈e.bl,z∉v.bl D N x:=fun e u z w hh=>(hO.fresh z hh).2.2 (h.sub z (qcq.2 ⟨e,u,w⟩));refine⟨?_,?_,?_,?_,?_,?_,?_,?_,?_,?_⟩
 · show(Led.insAll v.us (v.bl D N x)).length<=_
   have n:=Led.len_insAll_le (v.bl D N x) v.us;have k:=h.len;rw[Jmp];omega
 · show v.id+1=_
   rw[h.id,qad];rfl
 · show(v.es++[_]).length=_
   rw[qad,qad,h.es];rfl
 · intro e u
   rcases qbc.1 (show e∈v.es++[v.en D N x] from u) with u | u
   · have:=h.ids e u
     exact⟨this.1,by show e.id<=v.id+1;omega⟩
   · rw[qaz.1 u]
     exact⟨by show 1<=v.id+1;omega,qab _⟩
 · intro z w
   have w:z∈(v.es++[v.en D N x]).flatMap En.bl:=w;rw[qay] at w;show z∈Led.insAll v.us (v.bl D N x);rw[Led.mem_insAll];rcases qbc.1 w with w | w
   · exact .inl (h.sub z w)
   · exact .inr (by simpa[SvV.en] using w)
 · intro z w
   show z∈Led.insAll v.us (v.bl D N x);rw[Led.mem_insAll];exact .inl (h.us z w)
 · show((v.es++[v.en D N x]).flatMap En.bl).Nodup
   rw[qay];refine qdm.2 ⟨h.nodup,by simpa[SvV.en] using hO.nodup,fun z w y r e=> ?_⟩;have r:y∈v.bl D N x:=by simpa[SvV.en] using r
   exact(hO.fresh y r).2.2 (by rw[<- e];exact h.sub z w)
 · intro e u z w
   rcases qbc.1 (show e∈v.es++[v.en D N x] from u) with u | u
   · exact h.bl e u z w
   · rw[qaz.1 u] at w
     have:=hO.fresh z w;omega
 · intro j n k
   have i:j<v.es.length+1:=by
    have g:(v.put D N x).es.length=v.es.length+1:=by show(v.es++[_]).length=_;rw[qad];rfl
    omega
   by_cases t:j<v.es.length
   · have m:j<xs.length:=by rw[<- h.es];exact t
     obtain⟨a1,a2,a3,a4⟩:=h.at_ j t m;have e1:(v.put D N x).es[j]=v.es[j]:=qdn (bs:=[v.en D N x]) t;have e2:(xs++[x])[j]=xs[j]:=qdn m;rw[e1,e2];refine⟨a1,a2,a3,fun q hq=> ?_⟩;show putB v.f (v.bl D N x) _ _=_;rw[Jgn _ _ _ _ (s _ (qal t) _ (qal hq))];exact a4 q hq
   · have p:j=v.es.length:=by omega
     subst p;have e0:∀ (l:List En) (y:En) (hh:l.length<(l++[y]).length),(l++[y])[l.length]=y:=fun l y hh=>by simp
     have e1:(v.put D N x).es[v.es.length]=v.en D N x:=e0 v.es (v.en D N x) n;have e2:(xs++[x])[v.es.length]=x:=by rw[List.getElem_append_right (by rw[h.es];exact qab _)];simp[h.es]
     rw[e1,e2];refine⟨rfl,rfl,o,fun q hq=> ?_⟩;exact Jul _ _ v.f hO.nodup (by rw[o,Jfb]) q hq
 · intro z w
   show putB v.f (v.bl D N x) _ z=_;rw[Jgn _ _ _ _ (fun hh=>by have:=hO.fresh z hh;omega)];exact h.low z w
structure WvOk (xs:List Wv):Prop where
 n:xs.length<=40
 fit:∀x∈xs,x.1<5/\x.2.1<8/\1<=x.2.2.length/\x.2.2.length<=10000/\(∀r∈x.2.2,r.Fine)/\x.2.2.Pairwise Rc.lt
 place:(xs.map fun x=>plit (x.1:Int) (x.2.1:Int)).Nodup
def padC (l:List UInt8):List UInt8:=l++zeros ((256 - l.length % 256) % 256)
def nbC (l:List UInt8):Nat:=(l.length+255) / 256
theorem Jid(l:List UInt8):(padC l).length=256*nbC l:=by
 unfold padC nbC;rw[qad,Jcj];omega
def chC (l:List UInt8) (i:Nat):ByteArray:=strOf (((padC l).drop (256*i)).take 256)
theorem Jum(l:List UInt8)(i:Nat)(h:i<nbC l):(chC l i).size=256:=by
 unfold chC;rw[Jab,qap,qa4,Jid];omega
def putN (f:Int ->Option ByteArray) (a:Nat) (g:Nat ->ByteArray):Nat ->Int ->Option ByteArray
 | 0=>f
 | k+1=>setS (putN f a g k) ((a+k:Nat):Int) (g k)
theorem J71(l:List UInt8)(i:Nat)(h:i<nbC l):(strOf (padC l)).extract (256*i) (256*i+256)=chC l i:=by
 unfold chC;have x:=Jid l
 have e:padC l=(padC l).take (256*i)++(((padC l).drop (256*i)).take 256++((padC l).drop (256*i)).drop 256):=by
  rw[qbe,qbe]
 have z:((padC l).take (256*i)).length=256*i:=by rw[qap];omega
 have y:(((padC l).drop (256*i)).take 256).length=256:=by rw[qap,qa4];omega
 apply Ja7
 conv=>lhs;rw[e]
 generalize (padC l).take (256*i)=a at*;generalize ((padC l).drop (256*i)).take 256=b at*;generalize ((padC l).drop (256*i)).drop 256=c at*;rw[<- z,<- y];simp[strOf]
structure ScR (w3 wr:World) (gc g i:Nat) (now:Int) (nm:ByteArray) (A:Option Addr) (n c:Nat) (B:Option Addr) (c2:Nat) (ps:List Pm) (k:Nat) (E:Option Addr) (ec:Nat):Prop where
 chg:Chg (fun b=>b=gc) w3 wr
 box:Bx wr gc 207 (Ja0 g i now nm A n c B c2 E k ec)
 row:wr.ownsRow w3.heap.size 312 6 (.slice E k ec) k ((ps.map Pm.em).flatMap Em.cells)
 lt:gc<w3.heap.size
section
variable {w3 wr w':World} {gc g i:Nat} {now:Int} {nm:ByteArray} {A:Option Addr} {n c:Nat} {B:Option Addr} {c2:Nat} {ps:List Pm} {k:Nat} {E:Option Addr} {ec:Nat}
theorem ScR.below(h:ScR w3 wr gc g i now nm A n c B c2 ps k E ec)(hb:Below wr.heap.size wr w'):ScR w3 w' gc g i now nm A n c B c2 ps k E ec:=
 ⟨h.chg.then_below hb,h.box.below hb,Jah h.row hb,h.lt⟩
theorem ScR.put(h:ScR w3 wr gc g i now nm A n c B c2 ps k E ec)(p:Pm){E':Option Addr}{ec':Nat}(hg:wr.grownBy w' (Value.slice E k ec).ownBlock)(ho:w'.ownsRow w3.heap.size 312 6 (.slice E' (k+1) ec') (k+1) ((ps.map Pm.em).flatMap Em.cells++p.em.cells)):ScR w3 (w'.setCell ⟨gc,11,none⟩ (.slice E' (k+1) ec')) gc g i now nm A n c B c2 (ps++[p]) (k+1) E' ec':=by
 have z:=Chg.set (F:=fun b=>b=gc) w' ⟨gc,11,none⟩ (.slice E' (k+1) ec') rfl;refine⟨(h.chg.trans (Chg.of_grown (F:=fun b=>(Value.slice E k ec).ownBlock=some b) hg (fun b e=>e)) (fun b hb=> .inr (h.row.lt b hb).1)).trans z (fun b e=> .inl e),(h.box.grown hg (h.box.not_row h.row (by decide))).set 11 _,?_,h.lt⟩;rw[qbf,qay];refine Jau (xs:=_) ?_ z (fun b hb e=> ?_)
 · simpa using ho
 · have y:=(ho.lt b hb).1
   have x:=h.lt;omega
theorem ScR.cat(h:ScR w3 wr gc g i now nm A n c B c2 ps k E ec){ts:List Ti}{fl:List Int}(hT:Tis wr A n ts)(hc:n<=c)(hF:Ints wr .i64 B n fl)(hk:ps.length=k)(hr:∀p∈ps,Ints wr .i64 (adr p.A) p.e.bl.length p.e.bl)(hf:Jic g i now nm ts fl (ps.map Pm.e)):
  Jgu wr (fun _=>True) g i now nm A n c B c2 E k ec ts fl (ps.map Pm.em):=by
 have e1:(ps.map Pm.em).map Em.e=ps.map Pm.e:=by rw[qch];rfl
 obtain⟨_,_,e,z⟩:=Jap h.row;cases e
 refine⟨hf.hg,hf.hi,hf.hnow,hf.hnm,hT,hc,hf.hck,hF,hf.hflo,⟨z,by rw[qa0,hk],fun m hm=> ?_,fun _ _=>trivial⟩,?_,fun m hm=> ?_,?_,?_,?_⟩
 · obtain⟨p,y,rfl⟩:=qbm.1 hm
   exact⟨hr p y,fun _ _=>trivial⟩
 · have:=hf.hen;rw[qa0,hk] at this;exact this
 · exact hf.hok _ (by rw[<- e1];exact qcz hm)
 · rw[Jsp,e1];exact hf.hsh
 · rw[Jk4,e1];exact hf.hbl
 · rw[e1];exact hf.hlen
end
theorem J72{FB FD FT:Nat ->Prop}{gx N C B D R gd gen id mp bk q nP gs room:Nat}{lg:Option Addr}{bad:Int}{pf:Nat ->Nat ->Option PRaw}{us:List Int}{a b m:Option (List Int)}{f:Int ->Option ByteArray}{t:Tv}(A:Option Addr)(np cp:Nat)(ps:List Pm)(w:World)(h:SvS w FB FD gx N C B D R gd gen id mp bk q nP lg bad pf us a b m f)(hL:Jd3 N C B D R)(hS:StAt w FT gs room t)(hP:Jgt w (Apart FB FD gx w) A np ps)(hnp:np<=90)(hfit:Jic (gen+1) id t.r.now t.r.nm t.r.ts t.r.all (ps.map Pm.e))(hG:Glo w)(hnt:t.tabs.length=t.r.ts.length)(hroom:(catB (gen+1) id t.r.now (Py.printL t.r.nm.toList t.r.ts) t.r.all (ps.map Pm.e)).length<=C*256)(hq:q<=700000):
  Cs 247 #[gx,gs,.slice A np cp] w fun e w'=>∃FD' nb l,l=catB (gen+1) id t.r.now (Py.printL t.r.nm.toList t.r.ts) t.r.all (ps.map Pm.e)/\nb=nbC l/\e= .returned (.tuple #[(l.length:Int),(0:Int)])/\
   SvS w' FB FD' gx N C B D R gd gen id mp bk (q+2*nb) nP lg bad pf us a b m (putN f (Jck B (gen+1)) (chC l) nb)/\SvT w w' FB FD FB FD' gx:=by
 obtain⟨g1,Hc⟩:=exE (gen+1);rw[<- Hc] at hfit hroom ⊢;obtain⟨es,Hn⟩:=exE (ps.map Pm.e);rw[<- Hn] at hfit hroom ⊢;have Kh:gen+1<18446744073709551616:=by rw[<- Hc];exact hfit.hg.2
 have KS:IntKind.u64.wrap ((gen:Int)+1)=(g1:Int):=by rw[IntWalk.u64_in _ (by omega)];omega
 have Ki:t.tabs.length<=1000:=by rw[hnt];have:=(Py.check_fine hfit.hck).2.2.1;omega
 have Kj:=zI (J9k w hS Ki);have HV:=zI h;have Ho:=zI hP;have KT:=zI hG;have KU:=zI hfit;have Kk:=zI Hn;have KV:=zI hroom;have TI:=zI Hc;have O:=zI hL;obtain⟨n,hn⟩:=exE t.tabs.length;rw[<- hn] at Kj;have HN:=zI (show n=t.r.ts.length from by rw[hn,hnt]);clear h hP hG hfit Hn hroom Hc hL hS hn hnt Ki Kh;go_enter Tryz.func247,Tryz.ntmps247;go_wp2_with fail
 refine Kj.out.mono ?_;rintro e w1 ⟨A1,c1,B1,c2,rfl,Kl,Km,Hp,Kn,Hd⟩;go_upto_region 4 with fail
 obtain⟨gc,M⟩:=exE w1.heap.size;obtain⟨w2,J⟩:=exE (w1.alloc (.cells (Ja0 1 1 t.r.now t.r.nm A1 n c1 B1 c2 none 0 0) 207));have Ko:w1.alloc (.cells #[.int .u64 1,.int .u64 1,(t.r.now:Int),t.r.nm,.slice A1 n c1,.slice B1 n c2,ByteArray.empty,.slice none 0 0,.slice none 0 0,(0:Int),(0:Int),.slice none 0 0] 207)=w2:=by rw[J];rfl
 rw[Ko,<- M];have y:=(qaa w1.heap.size w1).alloc (qab _) (.cells (Ja0 1 1 t.r.now t.r.nm A1 n c1 B1 c2 none 0 0) 207);have He:=Bx.new w1 207 (Ja0 1 1 t.r.now t.r.nm A1 n c1 B1 c2 none 0 0);rw[<- J] at y He;rw[<- M] at He;have Hq:=zI (Hd.trans (y.mono Hd.size));have Y:=zI He;have KW:=zI (Kl.below y);have Kp:=zI (Jah Kn y);have TJ:=zI (Hp);have KX:=zI Km;have Hr:=zI (show w.heap.size<=gc from by rw[M];exact Hd.size);have Kq:=zI (HV.out.below Hq.out);have x8:=Kq.out.box.at_ 8 (v:= .int .u64 (gen:Int)) rfl;have x9:=Kq.out.box.at_ 9 (v:= .int .u64 (id:Int)) rfl;have z0:=Y.out.at_ 0 rfl;have z1:=Y.out.at_ 1 rfl;have f0:=Y.out.free 0;have f1:=Y.out.free 1;have Kr:=zI (show ∀a,A1=some a ->a.block≠gc from fun a e=>by have:=(Hp a e).2;rw[M];omega);have Ks:=zI (show ∀b,(Value.slice B1 n c2).ownBlock=some b ->b≠gc from fun b hb e=>Y.out.not_row Kp.out (by decide) (by rw[hb,e]));clear y He Ko J M Hd Kl Kn Hp Km;go_region
 obtain⟨w3,V⟩:=exE (((w2.setCell ⟨gc,0,none⟩ (.int .u64 (g1:Int))).setCell ⟨gc,1,none⟩ (.int .u64 (id:Int))).drew);rw[<- V]
 have I:Chg (fun b=>b=gc) w2 w3:=by
  rw[V];exact(((Chg.set (F:=fun b=>b=gc) w2 ⟨gc,0,none⟩ (.int .u64 (g1:Int)) rfl).trans (Chg.set (F:=fun b=>b=gc) _ ⟨gc,1,none⟩ (.int .u64 (id:Int)) rfl) (fun b e=> .inl e)).trans (Chg.of_below (qaa _ _).drew) (fun b e=> .inl e))
 have Hs:Bx w3 gc 207 (Ja0 g1 id t.r.now t.r.nm A1 n c1 B1 c2 none 0 0):=by
  rw[V];exact((Y.out.set 0 (.int .u64 (g1:Int))).set 1 (.int .u64 (id:Int))).drew
 have KY:=I.size;have Hf:=Hr.out;have Kt:gc<w3.heap.size:=Hs.lt;have Ku:=zI (show Below w.heap.size w w3 from Hq.out.trans (I.below (fun b e=>by rw[e];exact Hf) Hq.out.size));have Kv:=zI (show ScR w3 w3 gc g1 id t.r.now t.r.nm A1 n c1 B1 c2 [] 0 none 0 from⟨Chg.refl _ _,Hs,qax _ _ _ _,Kt⟩);have KZ:=zI (KW.out.chg I Kr.out);have K7:=zI (Jau Kp.out I Ks.out);clear x8 x9 z0 z1 f0 f1 V Hs KY Hf Kt I;have K8:=zI (show ∀wr,Chg (fun b=>b=gc) w3 wr ->Below w.heap.size w wr from fun wr hc=>Ku.out.trans (hc.below (fun b e=>by rw[e];exact Hr.out) Ku.out.size));have Ht:=zI Ho.out.len;have TK:=zI (show gc<w3.heap.size from Kv.out.box.lt);clear KS;go_wp2_with fail
 go_loopw [37] (fun j wr=>∃ (k:Nat) (E:Option Addr) (ec:Nat),k<=np/\j= .int .i64 (k:Int)/\ScR w3 wr gc g1 id t.r.now t.r.nm A1 n c1 B1 c2 (ps.take k) k E ec) (fun j _=>np - (intOf j).toNat)
 case atStart=>exact⟨0,none,0,qaq _,rfl,by simpa using Kv.out⟩
 case round=>
  obtain⟨k,E,ec,hk,rfl,P⟩:=hrel;have H:=zI (K8.out wr P.chg);by_cases Hg:k<np
  · have K:k<ps.length:=by rw[Ht.out];exact Hg
    obtain⟨bA,oA,hA,TL,hc⟩:=(Ho.out.below H.out).get K;have K9:=zI (show ps.take (k+1)=ps.take k++[ps[k]] from qak K);generalize ps[k]'K=p at*;have p0:wr.cell? ⟨bA,oA+k*7,none⟩=some (.int .u64 (p.e.id:Int)):=hc.c0;have p1:wr.cell? ⟨bA,oA+k*7+1,none⟩=some (.int .i64 (p.e.tier:Int)):=hc.c1;have p2:wr.cell? ⟨bA,oA+k*7+2,none⟩=some (.int .i64 (p.e.shard:Int)):=hc.c2;have p3:wr.cell? ⟨bA,oA+k*7+3,none⟩=some (.int .i64 0):=hc.c3;have p4:wr.cell? ⟨bA,oA+k*7+4,none⟩=some (.int .i64 (p.e.bl.length:Int)):=hc.c4;have p5:wr.cell? ⟨bA,oA+k*7+5,none⟩=some (.slice (adr p.A) p.e.bl.length p.c):=hc.c5;have p6:wr.cell? ⟨bA,oA+k*7+6,none⟩=some (.slice (adr p.B) p.l.length p.d):=hc.c6;subst hA;clear hc;obtain⟨gp,Hu⟩:∃gp,gp=wr.heap.size:=⟨_,rfl⟩;obtain⟨wb,Hh⟩:∃wb,wb=wr.alloc (.cells #[.int .u64 (p.e.id:Int),.int .i64 (p.e.tier:Int),.int .i64 (p.e.shard:Int),.int .i64 0,.int .i64 (p.e.bl.length:Int),.slice (adr p.A) p.e.bl.length p.c,.slice (adr p.B) p.l.length p.d] 316):=⟨_,rfl⟩;have s:=Bx.new wr 316 #[.int .u64 (p.e.id:Int),.int .i64 (p.e.tier:Int),.int .i64 (p.e.shard:Int),.int .i64 0,.int .i64 (p.e.bl.length:Int),.slice (adr p.A) p.e.bl.length p.c,.slice (adr p.B) p.l.length p.d];rw[<- Hh,<- Hu] at s;have Hv:=(qaa wr.heap.size wr).alloc (qab _) (.cells #[.int .u64 (p.e.id:Int),.int .i64 (p.e.tier:Int),.int .i64 (p.e.shard:Int),.int .i64 0,.int .i64 (p.e.bl.length:Int),.slice (adr p.A) p.e.bl.length p.c,.slice (adr p.B) p.l.length p.d] 316);rw[<- Hh] at Hv;have Ta:=zI Hh;have Tb:=zI Hu;have t0:=s.at_ 0 (v:= .int .u64 (p.e.id:Int)) rfl;have t1:=s.at_ 1 (v:= .int .i64 (p.e.tier:Int)) rfl;have t2:=s.at_ 2 (v:= .int .i64 (p.e.shard:Int)) rfl;have t3:=s.at_ 3 (v:= .int .i64 0) rfl;have t4:=s.at_ 4 (v:= .int .i64 (p.e.bl.length:Int)) rfl;have t5:=s.at_ 5 (v:= .slice (adr p.A) p.e.bl.length p.c) rfl;have Hw:=P.below Hv;have x11:=Hw.box.at_ 11 (v:= .slice E k ec) rfl;have y:=(qaa wb.heap.size wb).alloc (qab _) (.cells p.em.cells.toArray 312);have o:=zI (Hw.below y);have Kw:=zI (Sl.new wb 312 wb.heap.size p.em.cells p.em.cells.toArray rfl rfl);have Kx:=zI (show ∀u∈p.em.cells,u.oneCell'=true from by have:=Jzh [p.em];simpa using this);have Tc:=zI (show k+1<=1000000 from by omega);have Hi:=zI (show w3.heap.size<=(wb.alloc (.cells p.em.cells.toArray 312)).heap.size from o.out.chg.size);have Ky:=zI (show p.em.cells.length=1*6 from rfl);have Td:=zI (show p.em.cells=[.int .u64 (p.e.id:Int),.int .i64 (p.e.tier:Int),.int .i64 (p.e.shard:Int),.int .i64 0,.int .i64 (p.e.bl.length:Int),.slice (adr p.A) p.e.bl.length p.c] from rfl);rw[Td.out] at o Kw Kx Hi Ky;clear Hh Hu s Hv P Hw y;go_upto_region 8 with fail
    rw[<- Ta.out,<- Tb.out];clear p0 p1 p2 p3 p4 p5 p6;go_wp2_with (at_builtin;refine Jxm rfl _ _ rfl o.out.row rfl (some ⟨wb.heap.size,0,none⟩) 1 1 _ rfl Ky.out Kw.out Kx.out Tc.out Hi.out ?_;intro E' ec' w5 Kz Hx;have X5:=o.out.box.grown Hx (o.out.box.not_row o.out.row (by decide));have y11:=X5.at_ 11 (v:= .slice E k ec) rfl;have f11:=X5.free 11;clear X5)
    have KC:=zI (o.out.put p Hx Kz);rw[<- K9.out] at KC;clear Kz Hx y11 f11;go_wp2_with fail
    go_roundw
    case rel=>exact⟨k+1,E',ec',by omega,by go_num,KC.out⟩
    case measure=>simp[intOf];omega
  · have Te:k=np:=by omega
    subst Te;have Tf:=zI (show ps.take k=ps from qao (by rw[Ht.out];exact qab _));rw[Tf.out] at P;have U:=KU.out;rw[Kk.out] at U;have hT:=KZ.out.chg P.chg Kr.out;have hF:=Jau K7.out P.chg Ks.out;obtain⟨_,_,e2,KD⟩:=Jap hF;cases e2
    have hI:Ints wr .i64 B1 n t.r.all:=⟨KD,by rw[U.hfn];exact HN.out.symm,by rw[HN.out];have:=(Py.check_fine U.hck).2.2.1;unfold maxLen;omega,fun z hz=>Jca (by have:=U.hflo z hz;omega)⟩;have KE:=P.cat hT KX.out hI Ht.out (fun p hp=>((Ho.out.below H.out).row p hp).bl) U;have Hm:=zI (J0a g1 id t.r.now t.r.nm A1 n c1 B1 c2 E k ec t.r.ts t.r.all (ps.map Pm.em) wr KE (KT.out.below H.out));rw[show(ps.map Pm.em).map Em.e=es from by rw[Kk.out,qch];rfl] at Hm;obtain⟨x0,x1,x2,x3,x4,x5,x6,x7,x8,x9,x10,x11⟩:=Jbk P.box;have Tg:=zI P.box;have TM:=zI P.lt;have TN:=zI P.chg;clear U hT hF KD hI KE P;go_wp2_with fail
    refine Hm.out.mono ?_;rintro e w4 ⟨rfl,Hy⟩;have Th:=zI (Tg.out.below Hy);have Hz:=zI (H.out.trans (Hy.mono H.out.size));have Tj:=zI (HV.out.below Hz.out);have y4:=Tj.out.box.at_ 4 (v:= (C:Int)) rfl;obtain⟨l,hl⟩:=exE (catB g1 id t.r.now (Py.printL t.r.nm.toList t.r.ts) t.r.all es);rw[<- hl];have KG:=KV.out;have TO:C<=30:=O.out.bd.2.1;rw[<- hl] at KG;obtain⟨L,Hj⟩:=exE l.length;rw[<- Hj] at KG;have KH:(strOf l).size=L:=(by rw[Jab,Hj]);have d1:decide ((C:Int)*256<(L:Int))=false:=qae (by omega);have HL:=zI hl;have H0:=zI Hj;have TP:=zI KH;have H9:=zI (Jn9 ((256 - L % 256) % 256) w4 (by omega));obtain⟨S,hS⟩:=exE (strOf l);rw[<- hS] at KH ⊢;have HS:=zI hS;clear x0 x1 x2 x3 x4 x5 x6 x7 x8 x9 x10 x11 hl Hj hS Hy;obtain⟨z,hz⟩:=exE ((256 - L % 256) % 256);rw[<- hz] at H9;obtain⟨Z,hZ⟩:=exE (strOf (zeros z));rw[<- hZ] at H9;have TQ:Z.size=z:=(by rw[hZ,Jab,Jcj]);obtain⟨nb,Hk⟩:=exE (nbC l);have hJ:(strOf (padC l)).size=256*nb:=(by rw[Jab,Jid,Hk])
    have Ka:S++Z=strOf (padC l):=by
     rw[HS.out,hZ];unfold padC;rw[hz,H0.out];exact Jc3 l _
    obtain⟨T,hT⟩:=exE (strOf (padC l));rw[<- hT] at hJ Ka;have KI:nb=(L+255) / 256:=by rw[Hk,H0.out];rfl
    have TR:z<=255:=(by omega);have HZ:=zI hZ;have Tk:=zI Ka;have Tm:=zI hJ;have Tn:=zI hT;have Kb:=zI Hk;have TT:=zI KI;have TU:=zI hz;have KJ:=O.out.bd;have KK:nb<=C:=(by omega);have KL:=zI KK;clear hZ Ka hJ hT Hk KI KK KJ;go_wp2_with fail
    rw[show(-((L:Int) % 256) % 256)=((z:Nat):Int) from by rw[hz];omega];refine H9.out.mono ?_;rintro e w5 ⟨rfl,Kc⟩;have KM:=zI (Th.out.below Kc);have KN:=zI (Hz.out.trans (Kc.mono Hz.out.size));have To:=zI (HV.out.below KN.out);clear hz Kc y4 d1;go_upto_region 15 with fail
    rw[Tk.out];have hJ:=Tm.out;have Tp:=zI (show ∀x,FB x ->x<w.heap.size from HV.out.book.ins);have Tq:=zI (show ∀x,FD x ->x<w.heap.size from HV.out.disk.ins);have Hf:=Hr.out;have Tr:=HV.out.box.lt;have Ts:=zI (show Apart FB FD gx w5 gc from⟨fun h=>by have:=Tp.out _ h;omega,fun h=>by have:=Tq.out _ h;omega,by omega,KM.out.lt⟩);clear Hf Tr;go_wp2_with fail
    go_loopw [14,15] (fun i _ wr=>∃ (j:Nat) (FDr:Nat ->Prop),j<=nb/\i= .int .i64 ((256*j:Nat):Int)/\SvS wr FB FDr gx N C B D R gd gen id mp bk (q+2*j) nP lg bad pf us a b m (putN f (Jck B g1) (chC l) j)/\SvT w5 wr FB FD FB FDr gx) (fun i _ _=>256*nb - (intOf i).toNat)
    case atStart=>exact⟨0,FD,qaq _,rfl,by simpa[putN] using To.out,SvT.refl _ _ _ _⟩
    case round=>
     obtain⟨j,FDr,hj,rfl,hV,hT⟩:=hrel;have KO:=Dj.symm (F:=fun x=>x=gx\/FB x\/FD x) (G:=Apart FB FD gx w5) (fun x h1 h2=>Apart.not x h2 h1);have Ha:=zI hV;have KP:=zI hT;have KQ:=zI (KM.out.chg hT.chg (KO gc Ts.out));clear hV hT KO;by_cases Hg:j<nb
     · have Kd:=(qaa wr.heap.size wr).drew
       have Hl:=zI (Ha.out.below Kd);have Tt:=O.out.bd;have hn:=O.out.n;have Tu:=KL.out;have KR:Jck B g1+j<N:=by unfold Jck;split<;>omega
       have Tw:=zI ((DsW.start Hl.out.disk).write (Jck B g1+j) KR (chC l j) (Jum l j (by rw[<- Kb.out];exact Hg)) (by omega));have Tx:=zI (fun W (hW:Bo W gx (Jdv N C B D R ⟨gd,0,none⟩ gen id mp bk lg bad))=>Jue g1 hW);have Ty:=zI (KQ.out.below Kd);have Tz:=zI Hl.out.box;have c0:=KQ.out.at_ 0 (v:= .int .u64 (g1:Int)) rfl;have c0':=Ty.out.at_ 0 (v:= .int .u64 (g1:Int)) rfl;have x7:=Ha.out.box.at_ 7 (v:= gd) rfl;have x7':=Hl.out.box.at_ 7 (v:= gd) rfl;have Ke:=zI (J71 l j (by rw[<- Kb.out];exact Hg));rw[<- Tn.out] at Ke;obtain⟨i,hi⟩:=exE (256*j);rw[<- hi] at Ke ⊢;have hq:(i:Int) / 256=(j:Int):=by rw[hi];omega
       have TA:i+256<=T.size:=(by omega);have TV:i<=10000:=(by omega);have TW:Jck B g1+j<=5000:=(by omega);have HI:=zI hi
       have Hi:=zI (show Cs 28 #[gd,(((Jck B g1:Nat):Int)+(j:Int):Int),(T.extract i (i+256))] wr.drew fun e w'=>e= .returned (0:Int)/\DsW wr.drew FDr w' gd N (q+2*(j+1)) (putN f (Jck B g1) (chC l) (j+1)) from by
        rw[Ke.out,show(((Jck B g1:Nat):Int)+(j:Int))=((Jck B g1+j:Nat):Int) from by omega,show q+2*(j+1)=q+2*j+2 from by omega];exact Tw.out)
       have TB:(i:Int)+256<=(T.size:Int):=(by omega);have TC:(i:Int).tdiv 256=(j:Int):=by rw[Int.tdiv_eq_ediv_of_nonneg (by omega),hi];omega
       have TD:IntKind.i64.wrap ((i:Int)+256)=(i:Int)+256:=qbd _ (by omega);have J:(0:Int)<=(i:Int)+256:=(by omega);have V:((i:Int)+256).toNat=i+256:=(by omega);have TE:IntKind.i64.wrap (((Jck B g1:Nat):Int)+(j:Int))=((Jck B g1+j:Nat):Int):=by rw[qbd _ (by omega)];omega
       clear Kd Tt hn Tu KR hi hJ;go_upto_region 18 with fail
       go_region_with (first
        | (go_at_call 211
           refine(Tx.out _ Tz.out).mono ?_;rintro e w8 ⟨rfl,TF⟩;subst TF)
        | (go_simp
           go_at_call 28
           refine Hi.out.mono ?_;rintro e w8 ⟨rfl,Hb⟩))
       all_goals
        have g:=Hl.out.disked Hb;have Kf:=zI g.1;have Kg:=zI ((KP.out.trans (SvT.of_below FB FDr gx (qaa wr.heap.size wr).drew)).trans g.2);clear g Hb x7 x7' c0 c0' hq TC TD J V TE TA TB;go_wp2_with fail
        go_roundw
        case rel=>exact⟨j+1,_,by omega,by rw[HI.out];go_num,Kf.out,Kg.out⟩
        case measure=>have hI:=HI.out;simp[intOf];omega
     · have TG:j=nb:=by omega
       subst TG;have TH:=zI ((DsW.start Ha.out.disk).flush (by have:=KL.out;have:=O.out.bd;omega));have x7:=Ha.out.box.at_ 7 (v:= gd) rfl;go_wp2_with fail
       refine TH.out.mono ?_;rintro e w8 ⟨rfl,Hb⟩;have g:=Ha.out.disked Hb;have Kg:=zI (((SvT.of_below FB FD gx KN.out).trans KP.out).trans g.2);have Kf:=zI g.1;clear g Hb x7;go_wp2_with fail
       go_ret2;exact⟨_,j,l,HL.out,Kb.out,by rw[<- H0.out];rfl,Kf.out,Kg.out⟩
end Go.Proofs.YtglmhddbhhcjdaaGreatDoor
