/- Laws that the walk of the last text wants. -/
import Derived.Test.YtglmhddbhhcjdaaGreatDoorC15
import Derived.Test.YtglmhddbhhcjdaaGreatDoorC17
set_option maxRecDepth 100000
set_option linter.unusedSimpArgs false
set_option maxHeartbeats 4000000
namespace Go.Proofs.YtglmhddbhhcjdaaGreatDoor.Led
open Go.RowKit Go.Maps
theorem Jbn.keep{w w':World}{b:Nat}{us:List Int}(h:Jbn w b us)(hb:w'.heap[b]? =w.heap[b]?):Jbn w' b us:=by
 obtain⟨es,c,z,y⟩:=h.own;exact⟨⟨es,c,hb.trans z,y⟩,h.rising⟩
section
variable {w w':World} {B g m mm:Nat} {f n:Int} {us:List Int} {xs:List Acc}
theorem Jad.keep(h:Jad w B g m mm f n us xs)(hk:∀b,b<w.heap.size ->(b=g\/LedF m mm xs b) ->w'.heap[b]? =w.heap[b]?):Jad w' B g m mm f n us xs:=by
 have y:=hk g h.pool.lt (.inl rfl);have x:=hk m h.pool.set.lt (.inr (LedF.pool _ _ _));have z:=hk mm h.own.lt (.inr (LedF.map _ _ _));refine⟨⟨⟨h.pool.blk.keep y,h.pool.set.keep x,h.pool.rng,h.pool.ins⟩,(qbk (a:=⟨g,3,none⟩) y).trans h.c3,?_,fun a ha=> ?_,h.mem.abs,h.mem.hbs,h.mem.mh,h.mem.mne,h.mem.low⟩,h.law⟩
 · obtain⟨es,c,v,u⟩:=h.own
   exact⟨es,c,z.trans v,u⟩
 · have k:=h.acc a ha
   exact⟨(hk a.ab (qcb k.blk) (.inr (LedF.acc ha))).trans k.blk,k.set.keep (hk a.hb k.set.lt (.inr (LedF.held ha))),k.low⟩
theorem Jad.lower(h:Jad w B g m mm f n us xs):Jad w 0 g m mm f n us xs:=
 ⟨⟨h.mem.pool,h.mem.c3,h.mem.own,fun a ha=>⟨(h.acc a ha).blk,(h.acc a ha).set,qaq _,qaq _⟩,h.mem.abs,h.mem.hbs,h.mem.mh,h.mem.mne,qaq _,qaq _,qaq _⟩,h.law⟩
theorem Jad.inF(h:Jad w B g m mm f n us xs){b:Nat}(hb:LedF m mm xs b):b<w.heap.size:=by
 rcases hb with rfl | rfl | ⟨a,z,rfl | rfl⟩
 · exact h.pool.set.lt
 · exact h.own.lt
 · exact qcb (h.acc a z).blk
 · exact(h.acc a z).set.lt
end
def Jl2 (vs:List AV):Int:=(vs.map fun v=>v.2.1).sum
def Jog (vs:List AV) (nm:List UInt8):Option AV:=vs.find? (fun v=>v.1==nm)
def heldV (vs:List AV) (nm:List UInt8):List Int:=match Jog vs nm with | some v=>v.2.2 | none=>[]
theorem Jqf(xs:List Acc)(nm:List UInt8):Jog (view xs) nm=(Jba xs nm).map vw:=by
 unfold Jog view Jba;rw[List.find?_map];rfl
theorem Jfb(xs:List Acc)(nm:List UInt8):Jf1 (Jba xs nm)=heldV (view xs) nm:=by
 unfold heldV;rw[Jqf];cases Jba xs nm<;>rfl
theorem Jla(zs:List Int):(outAll [] zs).2=[]:=by
 apply List.eq_nil_iff_forall_not_mem.2;intro z y;have:=((Jp4 [] zs).sub z y).1;simp at this
theorem Jsp(xs:List Acc)(nm:List UInt8)(zs:List Int):Jh6 xs nm zs=(outAll (heldV (view xs) nm) zs).2:=by
 rw[<- Jfb];unfold Jh6;cases Jba xs nm with
 | none=>exact(Jla zs).symm
 | some a=>rfl
theorem Jqg(xs:List Acc)(nm:List UInt8)(t:ByteArray)(zs:List Int)(ht:1<=t.size/\t.size<=15):Jeh xs nm t zs=(outAll (heldV (view xs) nm) zs).2:=by
 rw[<- Jfb];unfold Jeh;cases Jba xs nm with
 | none=>exact(Jla zs).symm
 | some a=>exact qa0 ht
structure BookAt (w:World) (F:Nat ->Prop) (g:Nat) (f n:Int) (us:List Int) (vs:List AV):Prop where
 ex:∃m mm xs,Jad w 0 g m mm f n us xs/\view xs=vs/\∀b,LedF m mm xs b ->F b
 g:F g
 ins:Ins F w
section
variable {w w':World} {F G:Nat ->Prop} {g:Nat} {f n:Int} {us:List Int} {vs:List AV}
theorem BookAt.chg(h:BookAt w F g f n us vs)(hc:Chg G w w')(hd:Dj F G):BookAt w' F g f n us vs:=by
 obtain⟨m,mm,xs,x,v,y⟩:=h.ex;exact⟨⟨m,mm,xs,x.keep (fun b hb z=>hc.block b hb (by rcases z with rfl | z;exact hd _ h.g;exact hd _ (y b z))),v,y⟩,h.g,h.ins.up hc.size⟩
theorem BookAt.below(h:BookAt w F g f n us vs)(hb:Below w.heap.size w w'):BookAt w' F g f n us vs:=h.chg (G:=fun _=>False) (Chg.of_below hb) (fun _ _ x=>x)
theorem BookAt.few(h:BookAt w F g f n us vs):0<=Jl2 vs/\Jl2 vs+us.length<=n/\n<=4096/\0<=f/\(n=0\/f<=4096):=by
 obtain⟨m,mm,xs,z,rfl,y⟩:=h.ex;have x:=z.few;have v:sumL xs=Jl2 (view xs):=sumV xs;have u:=z.pool.rng;omega
theorem BookAt.rising(h:BookAt w F g f n us vs):Rising us:=by
 obtain⟨m,mm,xs,z,rfl,y⟩:=h.ex;exact z.pool.set.rising
theorem BookAt.rng(h:BookAt w F g f n us vs):∀z∈us,f<=z/\z<f+n:=by
 obtain⟨m,mm,xs,y,rfl,x⟩:=h.ex;exact y.pool.ins
theorem Jqh{m mm:Nat}{xs ys:List Acc}{us':List Int}(hF:∀b,LedF m mm xs b ->F b)(hg:F g)(hi:Ins F w)(k:Jad w' 0 g m mm f n us' ys)(hc:Chg (LedF m mm xs) w w')(hf:Ja0 w.heap.size xs ys):
  BookAt w' (grow F w w') g f n us' (view ys)/\Chg F w w':=
 ⟨⟨⟨m,mm,ys,k,rfl,fun b hb=>(hf.inF hb).elim (fun x=> .inl (hF b x)) (fun x=> .inr ⟨x,k.inF hb⟩)⟩,.inl hg,hi.grow hc.size⟩,hc.sub hF⟩
theorem Jlb{m mm:Nat}{xs ys:List Acc}{us':List Int}(hF:∀b,LedF m mm xs b ->F b)(hg:F g)(hi:Ins F w)(k:Jad w' 0 g m mm f n us' ys)(hc:Chg (LedF m mm xs) w w')(hf:∀N,Ja0 N xs ys):
  BookAt w' F g f n us' (view ys)/\Chg F w w':=
 ⟨⟨⟨m,mm,ys,k,rfl,fun b hb=>((hf w'.heap.size).inF hb).elim (fun x=>hF b x) (fun x=>absurd (k.inF hb) (by omega))⟩,hg,hi.up hc.size⟩,hc.sub hF⟩
theorem Jus(xs:List Acc):(view xs).length=xs.length:=by unfold view;simp
theorem book_new(f0 n0:Int)(w:World)(hf:0<=f0/\f0<=4096)(hn:0<=n0/\n0<=4096):
  Cs 160 #[(f0:Int),(n0:Int)] w fun e w'=>∃g,e= .returned (g:Nat)/\BookAt w' (made w w') g f0 n0 [] []/\Below w.heap.size w w':=by
 refine(J4j f0 n0 w (by omega)).mono ?_;rintro e w' ⟨g,m,mm,f,k,rfl,z,x,v,y⟩;have e1:f=f0:=by omega
 have e2:k=n0:=by rw[y,qay (by omega)];omega
 subst e1 e2;refine⟨g,rfl,⟨⟨m,mm,[],z.lower,rfl,fun b hx=> ?_⟩,⟨z.mem.low.1,z.pool.lt⟩,Ins.made⟩,x⟩;refine⟨?_,z.inF hx⟩;rcases hx with rfl | rfl | ⟨a,u,_⟩
 · exact z.mem.low.2.1
 · exact z.mem.low.2.2
 · simp at u
theorem reserve_b(s:ByteArray)(k:Int)(w:World)(h:BookAt w F g f n us vs)(hs:1<=s.size/\s.size<=15)(hk:0<=k/\k<=n - us.length - Jl2 vs)(hfew:vs.length<1000000):
  Cs 291 #[g,s,(k:Int)] w fun e w'=>e= .returned (0:Int)/\BookAt w' (grow F w w') g f n us (Jh5 vs s.data.toList k)/\Chg F w w':=by
 have v:=h.few;obtain⟨m,mm,xs,u,rfl,t⟩:=h.ex;have r:sumL xs=Jl2 (view xs):=sumV xs
 have q:Jg4 n us xs s k=0:=by
  unfold Jg4 Jmj;rw[qay (by rintro(x | x);omega;exact x hs),qay (by rw[r];omega)]
 refine(Jsh s k w u (by unfold maxLen;omega) (by omega) (qaq _) (by rw[<- Jus];exact hfew)).mono ?_;rintro e w' ⟨ys,rfl,k2,z,_,p,y⟩;rw[q] at z ⊢;rw[qa0 rfl] at z;obtain⟨a,b⟩:=Jqh t h.g h.ins k2 p y;rw[z] at a;exact⟨rfl,a,b⟩
theorem draw_b(s:ByteArray)(k:Int)(w:World)(h:BookAt w F g f n us vs)(hs:s.size<=maxLen)(hk:0<=k){v:AV}(hv:Jog vs s.data.toList=some v)(hkv:k<=v.2.1):
  Cs 292 #[g,s,(k:Int)] w fun e w'=>∃r O,e= .returned (.tuple #[r,(0:Int)])/\O=(freeIn f us n.toNat).take k.toNat/\w'.ownsRow w.heap.size 3 1 r O.length (O.map (Value.int .i64))/\DrawLaw f n us k O/\
   BookAt w' F g f n (insAll us O) (setV vs s.data.toList (J4a k O))/\Chg F w w':=by
 have d:=h.few;have t:=h.rising;have q:=h.rng;obtain⟨m,mm,xs,o,rfl,c⟩:=h.ex;rw[Jqf] at hv;obtain⟨a,p,rfl⟩:=Option.map_eq_some_iff.1 hv;have i:=Jbt p;have b:=o.left_bd i.1;have Z:=Jhe o.pos i.1;have Y:sumL xs=Jl2 (view xs):=sumV xs;have W:k<=a.left:=hkv
 have l:Jdd xs s.data.toList k=0:=by
  unfold Jdd;rw[qay (by omega),p];exact qay (by omega)
 have V:=Jy1 (f:=f) (n:=n) (us:=us) (k:=k) (by omega) t q hk (by omega);have U:Je8 f n us xs s.data.toList k=(freeIn f us n.toNat).take k.toNat:=qa0 l;refine(J4b s k w o hs (by omega) (qaq _)).mono ?_;rintro e w' ⟨⟨r,ys,rfl,z,k2,u,_,_,j⟩,T⟩;rw[l,qa0 rfl] at u;rw[U] at u z k2;rw[l];obtain⟨x,y⟩:=Jlb c h.g h.ins k2 T j;rw[u] at x;exact⟨r,_,rfl,rfl,z,V,x,y⟩
theorem return_b(s:ByteArray)(A:Option Addr)(k c:Nat)(zs:List Int)(w:World)(h:BookAt w F g f n us vs)(hs:s.size<=maxLen)(hz:Ints w .i64 A k zs)(hk:k<=1000000):
  Cs 294 #[g,s,.slice A k c] w fun e w'=>e= .returned ((outAll (heldV vs s.data.toList) zs).2.length:Int)/\
   BookAt w' F g f n (lessU us (outAll (heldV vs s.data.toList) zs).2) (setV vs s.data.toList (retV (outAll (heldV vs s.data.toList) zs).2))/\Chg F w w':=by
 obtain⟨m,mm,xs,u,rfl,t⟩:=h.ex;refine(Jwd s A k c zs w u hs hz hk (qaq _)).mono ?_;rintro e w' ⟨ys,rfl,k2,z,_,r,v⟩;rw[Jsp] at z k2 ⊢;obtain⟨x,y⟩:=Jlb t h.g h.ins k2 r v;rw[z] at x;exact⟨rfl,x,y⟩
theorem close_b(s:ByteArray)(w:World)(h:BookAt w F g f n us vs)(hs:s.size<=maxLen):
  Cs 295 #[g,s] w fun e w'=>e= .returned ((heldV vs s.data.toList).length:Int)/\
   BookAt w' F g f n (lessU us (heldV vs s.data.toList)) (Jml vs s.data.toList)/\Chg F w w':=by
 obtain⟨m,mm,xs,u,rfl,t⟩:=h.ex;refine(Jy3 s w u hs (qaq _)).mono ?_;rintro e w' ⟨ys,rfl,k2,z,_,r,v⟩;rw[Jfb] at k2 ⊢;obtain⟨x,y⟩:=Jlb t h.g h.ins k2 r v;rw[z] at x;exact⟨rfl,x,y⟩
theorem move_b(s t:ByteArray)(A:Option Addr)(k c:Nat)(zs:List Int)(w:World)(h:BookAt w F g f n us vs)(hs:s.size<=maxLen)(ht:1<=t.size/\t.size<=15)(hz:Ints w .i64 A k zs)(hk:k<=1000000)(hfew:vs.length<1000000):
  Cs 293 #[g,s,t,.slice A k c] w fun e w'=>e= .returned ((outAll (heldV vs s.data.toList) zs).2.length:Int)/\
   BookAt w' (grow F w w') g f n us (Jy4 vs s.data.toList t.data.toList (outAll (heldV vs s.data.toList) zs).2)/\Chg F w w':=by
 obtain⟨m,mm,xs,u,rfl,r⟩:=h.ex;refine(J4d s t A k c zs w u hs (by unfold maxLen;omega) hz hk (qaq _) (by rw[<- Jus];exact hfew)).mono ?_;rintro e w' ⟨ys,rfl,k2,z,_,q,v⟩;rw[Jqg _ _ _ _ ht] at z ⊢;obtain⟨x,y⟩:=Jqh r h.g h.ins k2 q v;rw[z] at x;exact⟨rfl,x,y⟩
theorem holds_b(s:ByteArray)(w:World)(h:BookAt w F g f n us vs)(hs:s.size<=maxLen):
  Cs 77 #[g,s] w fun e w'=>∃v,e= .returned v/\w'.ownsRow w.heap.size 3 1 v (heldV vs s.data.toList).length ((heldV vs s.data.toList).map (Value.int .i64))/\Below w.heap.size w w':=by
 obtain⟨m,mm,xs,z,rfl,y⟩:=h.ex;rw[<- Jfb];exact Jp5 s w z hs
theorem open_b(w:World)(h:BookAt w F g f n us vs):
  Cs 290 #[g] w (RB w (n - us.length - Jl2 vs:Int)):=by
 obtain⟨m,mm,xs,z,rfl,x⟩:=h.ex;have y:sumL xs=Jl2 (view xs):=sumV xs;rw[<- y];exact Jn8 w z
end
theorem insAll_self:∀ {l:List Int},Rising l ->insAll [] l=l:=fun {l} h=>
 Jdn (Jdj List.Pairwise.nil) h fun z=>by rw[mem_insAll];simp
theorem Jqi:∀ (zs hs acc:List Int),zs.Nodup ->(∀z∈zs,z∈hs) ->(zs.foldl Je7 (hs,acc)).2=acc++zs
 | [],hs,acc,_,_=>by simp
 | z::r,hs,acc,hn,hs'=>by
   rw[List.nodup_cons] at hn;have X:=Jqi r (hs.filter (fun x=>decide (x≠z))) (acc++[z]) hn.2 (fun y hy=>qbf.2 ⟨hs' y (by simp[hy]),qaj (fun e=>hn.1 (by rw[<- e];exact hy))⟩);rw[List.foldl_cons,show Je7 (hs,acc) z=(hs.filter (fun x=>decide (x≠z)),acc++[z]) from qa0 (hs' z (by simp)),X]
   simp
theorem outAll_all{zs hs:List Int}(hn:zs.Nodup)(hs':∀z∈zs,z∈hs):(outAll hs zs).2=zs:=by
 have:=Jqi zs hs [] hn hs'
 simpa[outAll] using this
theorem nodup_le{a b:List Int}(h:a.Nodup)(hs:∀z∈a,z∈b):a.length<=b.length:=h.length_le_of_subset hs
def nF:List UInt8:=[102,114,101,115,104]
def nL:List UInt8:=[108,105,118,101]
def nM:List UInt8:=[109,111,118,101]
def w3 (a b c:Option (List Int)):List AV:=(a.map fun l=>((nF,0,l):AV)).toList++(b.map fun l=>((nL,0,l):AV)).toList++(c.map fun l=>((nM,0,l):AV)).toList
theorem w3_sum(a b c:Option (List Int)):Jl2 (w3 a b c)=0:=by cases a<;>cases b<;>cases c<;>simp[w3,Jl2]
theorem w3_len(a b c:Option (List Int)):(w3 a b c).length<=3:=by cases a<;>cases b<;>cases c<;>simp[w3]
theorem bF:bytesBefore nF nL=true/\bytesBefore nF nM=true/\bytesBefore nL nM=true/\bytesBefore nL nF=false/\bytesBefore nM nF=false/\bytesBefore nM nL=false:=by decide
theorem ne3:nF≠nL/\nF≠nM/\nL≠nM/\nL≠nF/\nM≠nF/\nM≠nL:=by decide
theorem hF3(a b c:Option (List Int)):heldV (w3 a b c) nF=a.getD []:=by
 obtain⟨z,y,x,w,v,u⟩:=ne3;cases a<;>cases b<;>cases c<;>simp[w3,heldV,Jog, *]
theorem hL3(a b c:Option (List Int)):heldV (w3 a b c) nL=b.getD []:=by
 obtain⟨z,y,x,w,v,u⟩:=ne3;cases a<;>cases b<;>cases c<;>simp[w3,heldV,Jog, *]
theorem hM3(a b c:Option (List Int)):heldV (w3 a b c) nM=c.getD []:=by
 obtain⟨z,y,x,w,v,u⟩:=ne3;cases a<;>cases b<;>cases c<;>simp[w3,heldV,Jog, *]
def w4 (k:Int) (a b c:Option (List Int)):List AV:=(nF,k,a.getD [])::(b.map fun l=>((nL,0,l):AV)).toList++(c.map fun l=>((nM,0,l):AV)).toList
theorem res4(k:Int)(a b c:Option (List Int)):Jh5 (w3 a b c) nF k=w4 k a b c:=by
 obtain⟨z,y,x,w,v,u⟩:=ne3;obtain⟨b1,b2,b3,b4,b5,b6⟩:=bF;cases a<;>cases b<;>cases c<;>simp[w3,w4,Jh5,Jn9,setV,insV,addV, *]
theorem find4(k:Int)(a b c:Option (List Int)):Jog (w4 k a b c) nF=some (nF,k,a.getD []):=by simp[w4,Jog]
theorem held4(k:Int)(a b c:Option (List Int)):heldV (w4 k a b c) nF=a.getD []:=by unfold heldV;rw[find4]
theorem draw4(k:Int)(O:List Int)(a b c:Option (List Int)):setV (w4 k a b c) nF (J4a k O)=w3 (some (insAll (a.getD []) O)) b c:=by
 obtain⟨z,y,x,w,v,u⟩:=ne3;cases a<;>cases b<;>cases c<;>simp[w3,w4,setV,J4a, *]
theorem move_L(O:List Int)(a:List Int)(b c:Option (List Int))(hO:O≠[]):Jy4 (w3 (some a) b c) nF nL O=w3 (some (lessU a O)) (some (insAll (b.getD []) O)) c:=by
 obtain⟨z,y,x,w,v,u⟩:=ne3;obtain⟨b1,b2,b3,b4,b5,b6⟩:=bF;cases b<;>cases c<;>simp[w3,Jy4,Jn9,setV,insV,J4c,J9q, *]
theorem ret3(O:List Int)(a:List Int)(b c:Option (List Int)):setV (w3 (some a) b c) nF (retV O)=w4 O.length (some (lessU a O)) b c:=by
 obtain⟨z,y,x,w,v,u⟩:=ne3;cases b<;>cases c<;>simp[w3,w4,setV,retV,lessU, *]
theorem close4(k:Int)(a b c:Option (List Int)):Jml (w4 k a b c) nF=w3 none b c:=by
 obtain⟨z,y,x,w,v,u⟩:=ne3;cases a<;>cases b<;>cases c<;>simp[w3,w4,Jml, *]
theorem take_used{f n:Int}{us O O2 out:List Int}(hn:0<=n)(hr:Rising us)(hi:∀z∈us,f<=z/\z<f+n)(ho:out=(freeIn f us n.toNat).take (n - us.length).toNat)(hO:∀z∈O,z∈out)(h2:O2=(outAll (lessU out O) out).2):
  lessU (lessU (insAll us out) O2) (lessU (lessU out O) O2)=insAll us O/\out=freeIn f us n.toNat:=by
 have t:=freeIn_len (f:=f) (us:=us) (n:=n.toNat) hr (fun z w=>by have:=hi z w;omega);have e:out=freeIn f us n.toNat:=by rw[ho];exact qap (by omega)
 refine⟨?_,e⟩;have L:=Jp4 (lessU out O) out;subst h2
 have v:∀z,z∈(outAll (lessU out O) out).2↔z∈out/\z∉O:=fun z=>by
  constructor
  · intro w
    have h:=L.sub z w;have y:=(qbf.1 h.1).2;exact⟨h.2,by simpa using y⟩
  · rintro⟨y,x⟩
    exact L.all z y (qbf.2 ⟨y,by simpa using x⟩)
 generalize (outAll (lessU out O) out).2=O2 at v ⊢;clear L;have u:∀z∈out,z∉us:=fun z w=>by rw[e] at w;exact(mem_freeIn.1 w).2.2
 refine Jdn (((Jdj hr).filter _).filter _) (Jdj hr) fun z=> ?_;unfold lessU;simp only[qbf,mem_insAll,qbc,v];constructor
 · rintro⟨⟨y | y,x⟩,s⟩
   · exact .inl y
   · exact .inr (Classical.byContradiction fun h6=>x ⟨y,h6⟩)
 · rintro(y | y)
   · exact⟨⟨.inl y,fun x=>u z x.1 y⟩,fun x=>u z x.1.1 y⟩
   · exact⟨⟨.inr (hO z y),fun x=>x.2 y⟩,fun x=>x.1.2 y⟩
end Go.Proofs.YtglmhddbhhcjdaaGreatDoor.Led
namespace Go.Proofs.YtglmhddbhhcjdaaGreatDoor
open Go.RowKit
section
variable {w0 w:World} {g B:Nat} {l:List UInt8}
theorem LayW.ints_old(h:LayW w0 w g l)(A:Option Addr)(n c:Nat)(vs:List Int)(hs:Ints w0 .i64 A n vs)(h1:1<=n)(hl:l.length+8*n<=800000):
  Cs 176 #[(g:Nat),.slice A n c] w fun e w'=>e= .returned (.tuple #[])/\LayW w0 w' g (l++vs.flatMap fun v=>le 8 (u64 v)):=by
 have z:vs.map (Value.int .i64)≠[]:=fun e=>by have:=congrArg List.length e;rw[qa4,hs.len] at this;simp at this;omega
 refine(Joa w0.heap.size g A n c vs l w h.at_ (h.old hs.sl z) (h.sl hs.sl) hs.len hl h.size).mono ?_;rintro e w' ⟨rfl,y,hs⟩;exact⟨rfl,h.st (qaa _ _) y hs⟩
theorem LayW.small_nil(h:LayW w0 w g l)(size:Nat)(hz:Jc7 size)(hl:l.length<=800000):
  Cs 175 #[g,(size:Int),()] w fun e w'=>e= .returned (.tuple #[])/\LayW w0 w' g l:=by
 refine(Jf2 w0.heap.size g size none 0 0 [] l w h.at_ hz (by simp) ⟨fun a e=>by cases e⟩ ⟨fun h=>absurd rfl h⟩ rfl (by omega) h.size).mono ?_;rintro e w' ⟨rfl,z,y⟩;have:=h.st (qaa _ _) z y;simp only[qbt,qbp] at this;exact⟨rfl,this⟩
theorem LayW.small_old(h:LayW w0 w g l)(size:Nat)(hz:Jc7 size)(A:Option Addr)(n c:Nat)(vs:List Int)(hs:Ints w0 .i64 A n vs)(h1:1<=n)(hv:∀v∈vs,0<=v/\v<((256 ^ size:Nat):Int))(hl:l.length+4*n<=900000):
  Cs 175 #[(g:Nat),(size:Int),.slice A n c] w fun e w'=>e= .returned (.tuple #[])/\LayW w0 w' g (l++vs.flatMap fun v=>le size v.toNat):=by
 have u:vs.map (Value.int .i64)=(vs.map Int.toNat).map fun v:Nat=>Value.int .i64 (v:Int):=by
  rw[qcl];refine qcv fun v hv'=> ?_;show Value.int .i64 v=Value.int .i64 ((v.toNat:Nat):Int);rw[Int.toNat_of_nonneg (hv v hv').1]
 have z:Sl w0 A ((vs.map Int.toNat).map fun v:Nat=>Value.int .i64 (v:Int)):=by rw[<- u];exact hs.sl
 have y:(vs.map Int.toNat).map (fun v:Nat=>Value.int .i64 (v:Int))≠[]:=fun e=>by have:=congrArg List.length e;rw[qa4,qa4,hs.len] at this;simp at this;omega
 refine(Jf2 w0.heap.size g size A n c (vs.map Int.toNat) l w h.at_ hz (fun v hv'=> ?_) (h.old z y) (h.sl z) (by rw[qa4];exact hs.len) hl h.size).mono ?_
 · obtain⟨x,t,rfl⟩:=qbn.1 hv'
   have:=hv x t;omega
 rintro e w' ⟨rfl,s,hs⟩;have:=h.st (qaa _ _) s hs;rw[qdp] at this;exact⟨rfl,this⟩
theorem LayW.len(h:LayW w0 w g l):Cs 331 #[g] w (RS w (l.length:Int)):=J4e _ _ _ _ h.at_
def LayK (g:Nat) (w w':World):Prop:=∀b T cs,b≠g ->T≠5 ->Bx w b T cs ->Bx w' b T cs
theorem LayK.of{w1 w':World}(hb:Below w.heap.size w w1)(hs:PkSt B g w1 w'):LayK g w w':=fun b T cs hne hT hx=>by
 have z:=hx.below hb;refine⟨(hs.block b z.lt hne (.inr fun cs' fr e=> ?_)).trans z.blk⟩;rw[z.blk] at e;cases e
 exact hT rfl
theorem LayW.wordsK(h:LayW w0 w g l)(vs:List Nat)(n c:Nat)(cs:Array Value)(hcs:cs.toList=vs.map fun v:Nat=>Value.int .u64 (v:Int))(hn:vs.length=n)(hl:l.length+8*n<=900000):
  Cs 260 #[g,.slice (some ⟨w.heap.size,0,none⟩) n c] (w.alloc (.cells cs 55)) fun e w'=>e= .returned (.tuple #[])/\LayW w0 w' g (l++vs.flatMap (le 8))/\LayK g w w':=by
 have z:=(qaa w.heap.size w).alloc (qab _) (.cells cs 55);refine(Jh8 w0.heap.size g _ n c vs l _ (h.at_.below z) (h.arg _ cs (by decide)) (Sl.new w _ _ _ cs rfl hcs) hn hl (qax h.size z.size)).mono ?_;rintro e w' ⟨rfl,x,y⟩;exact⟨rfl,h.st z x y,LayK.of z y⟩
theorem LayW.smallK(h:LayW w0 w g l)(size:Nat)(hz:Jc7 size)(vs:List Nat)(hv:∀v∈vs,v<256 ^ size)(n c:Nat)(cs:Array Value)(hcs:cs.toList=vs.map fun v:Nat=>Value.int .i64 (v:Int))(hn:vs.length=n)(hl:l.length+4*n<=900000):
  Cs 175 #[g,(size:Int),.slice (some ⟨w.heap.size,0,none⟩) n c] (w.alloc (.cells cs 3)) fun e w'=>e= .returned (.tuple #[])/\LayW w0 w' g (l++vs.flatMap (le size))/\LayK g w w':=by
 have z:=(qaa w.heap.size w).alloc (qab _) (.cells cs 3);refine(Jf2 w0.heap.size g size _ n c vs l _ (h.at_.below z) hz hv (h.arg _ cs (by decide)) (Sl.new w _ _ _ cs rfl hcs) hn hl (qax h.size z.size)).mono ?_;rintro e w' ⟨rfl,x,y⟩;exact⟨rfl,h.st z x y,LayK.of z y⟩
end
