/- Laws that the walk of the last text wants. -/
import Derived.Test.YtglmhddbhhcjdaaGreatDoorC33
import Derived.Test.YtglmhddbhhcjdaaGreatDoorC31
set_option maxRecDepth 100000
set_option linter.unusedSimpArgs false
set_option maxHeartbeats 4000000
namespace Go.Proofs.YtglmhddbhhcjdaaGreatDoor
open Go.RowKit
theorem J91{F:Nat ->Prop}{g room:Nat}{t:Tv}(w:World)(h:StAt w F g room t)(h3:t.tabs.length<=1000):
  Cs 313 #[g] w fun e w'=>∃A c B c2,e= .returned (.tuple #[.agg (Ja1 1 1 t.r.now t.r.nm A t.tabs.length c B c2 none 0 0),(0:Int)])/\
   Tis w' A t.tabs.length t.r.ts/\t.tabs.length<=c/\AIn (made w w') A/\w'.ownsRow w.heap.size 3 1 (.slice B t.tabs.length c2) t.tabs.length (t.r.all.map (Value.int .i64))/\Below w.heap.size w w':=by
 have N:=(qaa w.heap.size w).alloc (qab _) (.cells zCat 207);have Ha:=Bx.new w 207 zCat;have HT:=zI (Jgr _ (h.below N));have Hk:=zI (fun W (hW:Below w.heap.size w W)=>Jhk W (h.below hW));have Hb:=zI N;have Hl:=zI Ha;clear N Ha h;go_enter Tryz.func313,Tryz.ntmps313;go_wp2_with fail
 refine HT.out.mono ?_;rintro e w1 ⟨gt,rfl,Hc,M⟩;obtain⟨A,c,B,m,d,L,cl,ga,gm,hX,K,Hm⟩:=Hc.tabs;obtain⟨n,hn⟩:=exE t.tabs.length;rw[<- hn] at hX K h3;have J:=(qaa w1.heap.size w1).drew;have T:=zI hX;have Hw:=zI (hX.below J);have Hn:=zI J;have Hd:=zI (fun W (hW:Below w1.heap.size w1 W)=>(Jpa t.r.nm A n c t.r.ts W (K.ts.below hW) (by omega)).mono (fun e w' (h:∃A' c',e= .returned (polV t.r.nm A' n c')/\w'.ownsRow W.heap.size 167 4 (.slice A' n c') n (t.r.ts.flatMap Ti.cells)/\Below W.heap.size W w')=>(show(∃A' c',e= .returned (polV t.r.nm A' n c')/\w'.ownsRow W.heap.size 167 4 (.slice A' n c') n (t.r.ts.flatMap Ti.cells)/\Below W.heap.size W w')/\Below w1.heap.size w1 w' from⟨h,by obtain⟨_,_,_,_,k⟩:=h;exact hW.trans (k.mono hW.size)⟩)));have He:=zI (fun W (hW:Below w1.heap.size w1 W)=>(J7z A n c B m d t.r W (K.below hW) h3).mono (fun e w' (h:∃v,e= .returned v/\w'.ownsRow W.heap.size 3 1 v n (t.r.all.map (Value.int .i64))/\Below W.heap.size W w')=>(show(∃v,e= .returned v/\w'.ownsRow W.heap.size 3 1 v n (t.r.all.map (Value.int .i64))/\Below W.heap.size W w')/\Below w1.heap.size w1 w' from⟨h,by obtain⟨_,_,_,k⟩:=h;exact hW.trans (k.mono hW.size)⟩)));have Hf:=zI (Hb.out.trans (M.mono Hb.out.size));have O:=zI (Hl.out.below M);have Ho:=zI K.ts.ok;have Hp:=zI K.ts.len;have Hq:=zI K.ts.n_le;have HN:=zI hn;have s:=zI (fun (W:World) (hS:Below w1.heap.size w1 W)=>(show W.cell? ⟨gt,0,none⟩=some (.int .i64 t.r.now)/\W.cell? ⟨gt,1,none⟩=some (.string t.r.nm)/\W.cell? ⟨gt,2,none⟩=some (.slice A n c)/\W.cell? ⟨gt,3,none⟩=some (.slice B m d)/\Below w1.heap.size w1 W from⟨(T.out.below hS).at_ 0 rfl,(T.out.below hS).at_ 1 rfl,(T.out.below hS).at_ 2 rfl,(T.out.below hS).at_ 3 rfl,hS⟩));have K0:=zI (s.out _ Hn.out);have K0a:=zI (s.out _ ((qaa w1.heap.size w1).alloc (qab _) (.cells zCat 207)).drew);clear hX K Hm Hc hn J M;go_upto_region 4 with fail
 go_cut [5] (fun s5 wx=>∃gc A' c' B' d',s5= .pointer (some ⟨gc,0,none⟩)/\Bx wx gc 207 (catG 1 1 t.r.now t.r.nm A' n c' B' n d' none 0 0)/\wx.ownsRow w1.heap.size 167 4 (.slice A' n c') n (t.r.ts.flatMap Ti.cells)/\wx.ownsRow w1.heap.size 3 1 (.slice B' n d') n (t.r.all.map (Value.int .i64))/\Below w1.heap.size w1 wx)
 case first =>
  go_region_held3 (fun w'=>w'.cell? ⟨gt,0,none⟩=some (.int .i64 t.r.now)/\w'.cell? ⟨gt,1,none⟩=some (.string t.r.nm)/\w'.cell? ⟨gt,2,none⟩=some (.slice A n c)/\w'.cell? ⟨gt,3,none⟩=some (.slice B m d)/\Below w1.heap.size w1 w')
   (first
     | with_reducible exact K0.out
     | with_reducible exact K0a.out
     | with_reducible exact K2.out
     | with_reducible exact K2a.out
     | with_reducible exact K3.out
     | with_reducible exact K3a.out
     | with_reducible exact K4.out)
   (first
     | (go_at_call 171
        refine(Hd.out _ ?hv).mono ?_
        case hv=>(go_split_ands;assumption)
        rintro e w2 ⟨⟨A',c',rfl,I,Hg⟩,j⟩;have Y:=zI j;have K2:=zI (s.out _ j);have K2a:=zI (s.out _ (j.alloc j.size (.cells zCat 207))))
     | (go_at_call 374
        refine(He.out _ ?hv).mono ?_
        case hv=>(go_split_ands;assumption)
        rintro e w3 ⟨⟨v,rfl,S,f⟩,i⟩;obtain⟨B',d',rfl,Hv⟩:=Jao S;have R:=zI i;have K3:=zI (s.out _ i);have K3a:=zI (s.out _ (i.alloc i.size (.cells zCat 207)))
        first
        | (have Hr:Below w1.drew.heap.size w1.drew w2:=by with_reducible exact Hg
           have Hs:Below w2.heap.size w2 w3:=(by with_reducible exact f);clear Hr Hs;have o:=Jaf I f;have U:=(qaa w3.heap.size w3).alloc (qab _) (.cells #[.int .u64 1,.int .u64 1,(t.r.now:Int),t.r.nm,.slice A' n c',.slice B' n d',.string ⟨#[]⟩,(),(),(0:Int),(0:Int),()] 207);have q:=Jde o (show w1.heap.size<=_ from by simp);have p:=Jde S (show w1.heap.size<=_ from by have H:=Y.out.size;omega)
           have l:=zI (show Bx (w3.alloc (.cells #[.int .u64 1,.int .u64 1,(t.r.now:Int),t.r.nm,.slice A' n c',.slice B' n d',.string ⟨#[]⟩,(),(),(0:Int),(0:Int),()] 207)) w3.heap.size 207 (catG 1 1 t.r.now t.r.nm A' n c' B' n d' none 0 0)/\(w3.alloc (.cells #[.int .u64 1,.int .u64 1,(t.r.now:Int),t.r.nm,.slice A' n c',.slice B' n d',.string ⟨#[]⟩,(),(),(0:Int),(0:Int),()] 207)).ownsRow w1.heap.size 167 4 (.slice A' n c') n (t.r.ts.flatMap Ti.cells)/\(w3.alloc (.cells #[.int .u64 1,.int .u64 1,(t.r.now:Int),t.r.nm,.slice A' n c',.slice B' n d',.string ⟨#[]⟩,(),(),(0:Int),(0:Int),()] 207)).ownsRow w1.heap.size 3 1 (.slice B' n d') n (t.r.all.map (Value.int .i64))/\Below w1.heap.size w1 (w3.alloc (.cells #[.int .u64 1,.int .u64 1,(t.r.now:Int),t.r.nm,.slice A' n c',.slice B' n d',.string ⟨#[]⟩,(),(),(0:Int),(0:Int),()] 207)) from
            ⟨Bx.new w3 _ _,Jaf q U,Jaf p U,R.out.trans (U.mono R.out.size)⟩)
           have K4:=zI (s.out _ l.out.2.2.2);clear o U q p)
        | (have V:=(by with_reducible exact(Bx.new w2 207 zCat).below f)
           have o:=Jaf (Jaf I ((qaa w2.heap.size w2).alloc (qab _) (.cells zCat 207))) f;have z:Bx w3 w2.heap.size 207 zCat:=V;have f0:=z.free 0;have z0:=z.at_ 0 rfl;have f1:=z.free 1;have z1:=z.at_ 1 rfl;have f2:=z.free 2;have z2:=z.at_ 2 rfl;have f3:=z.free 3;have z3:=z.at_ 3 rfl;have f4:=z.free 4;have z4:=z.at_ 4 rfl;have f5:=z.free 5;have z5:=z.at_ 5 rfl;have f6:=z.free 6;have z6:=z.at_ 6 rfl;have f7:=z.free 7;have z7:=z.at_ 7 rfl;have f8:=z.free 8;have z8:=z.at_ 8 rfl;have f9:=z.free 9;have z9:=z.at_ 9 rfl;have f10:=z.free 10;have z10:=z.at_ 10 rfl;have f11:=z.free 11;have z11:=z.at_ 11 rfl;have U:=Jaj (B:=w1.heap.size) (g:=w2.heap.size) [.int .u64 1,.int .u64 1,(t.r.now:Int),t.r.nm,.slice A' n c',.slice B' n d',.string ⟨#[]⟩,(),(),(0:Int),(0:Int),()] (by have H:=Y.out.size;omega) w3 0;have G:=Jcb (g:=w2.heap.size) [.int .u64 1,.int .u64 1,(t.r.now:Int),t.r.nm,.slice A' n c',.slice B' n d',.string ⟨#[]⟩,(),(),(0:Int),(0:Int),()] w3 0;have q:=Jde o (show w1.heap.size<=_ from by simp);have p:=Jde S (show w1.heap.size<=_ from by have H:=Y.out.size;simp;try omega)
           have l:=zI (show Bx (putC w3 w2.heap.size 0 [.int .u64 1,.int .u64 1,(t.r.now:Int),t.r.nm,.slice A' n c',.slice B' n d',.string ⟨#[]⟩,(),(),(0:Int),(0:Int),()]) w2.heap.size 207 (catG 1 1 t.r.now t.r.nm A' n c' B' n d' none 0 0)/\(putC w3 w2.heap.size 0 [.int .u64 1,.int .u64 1,(t.r.now:Int),t.r.nm,.slice A' n c',.slice B' n d',.string ⟨#[]⟩,(),(),(0:Int),(0:Int),()]).ownsRow w1.heap.size 167 4 (.slice A' n c') n (t.r.ts.flatMap Ti.cells)/\(putC w3 w2.heap.size 0 [.int .u64 1,.int .u64 1,(t.r.now:Int),t.r.nm,.slice A' n c',.slice B' n d',.string ⟨#[]⟩,(),(),(0:Int),(0:Int),()]).ownsRow w1.heap.size 3 1 (.slice B' n d') n (t.r.all.map (Value.int .i64))/\Below w1.heap.size w1 (putC w3 w2.heap.size 0 [.int .u64 1,.int .u64 1,(t.r.now:Int),t.r.nm,.slice A' n c',.slice B' n d',.string ⟨#[]⟩,(),(),(0:Int),(0:Int),()]) from
            ⟨Jaw z [.int .u64 1,.int .u64 1,(t.r.now:Int),t.r.nm,.slice A' n c',.slice B' n d',.string ⟨#[]⟩,(),(),(0:Int),(0:Int),()] rfl,Jax q G (fun b k e=>(z.not_row q (by decide)) (by rw[k,e])),Jax p G (fun b k e=>(z.not_row p (by decide)) (by rw[k,e])),R.out.trans U⟩)
           have K4:=zI (s.out _ l.out.2.2.2);simp only[putC,qa7,Nat.reduceAdd] at l K4;clear V o U G q p)
        | (have V:=(by with_reducible exact((Bx.new w1 207 zCat).drew.below Hg).below f)
           have o:=Jaf I f;have z:Bx w3 w1.heap.size 207 zCat:=V;have f0:=z.free 0;have z0:=z.at_ 0 rfl;have f1:=z.free 1;have z1:=z.at_ 1 rfl;have f2:=z.free 2;have z2:=z.at_ 2 rfl;have f3:=z.free 3;have z3:=z.at_ 3 rfl;have f4:=z.free 4;have z4:=z.at_ 4 rfl;have f5:=z.free 5;have z5:=z.at_ 5 rfl;have f6:=z.free 6;have z6:=z.at_ 6 rfl;have f7:=z.free 7;have z7:=z.at_ 7 rfl;have f8:=z.free 8;have z8:=z.at_ 8 rfl;have f9:=z.free 9;have z9:=z.at_ 9 rfl;have f10:=z.free 10;have z10:=z.at_ 10 rfl;have f11:=z.free 11;have z11:=z.at_ 11 rfl;have U:=Jaj (B:=w1.heap.size) (g:=w1.heap.size) [.int .u64 1,.int .u64 1,(t.r.now:Int),t.r.nm,.slice A' n c',.slice B' n d',.string ⟨#[]⟩,(),(),(0:Int),(0:Int),()] (by have H:=Y.out.size;omega) w3 0;have G:=Jcb (g:=w1.heap.size) [.int .u64 1,.int .u64 1,(t.r.now:Int),t.r.nm,.slice A' n c',.slice B' n d',.string ⟨#[]⟩,(),(),(0:Int),(0:Int),()] w3 0;have q:=Jde o (show w1.heap.size<=_ from by simp);have p:=Jde S (show w1.heap.size<=_ from by have H:=Y.out.size;simp;try omega)
           have l:=zI (show Bx (putC w3 w1.heap.size 0 [.int .u64 1,.int .u64 1,(t.r.now:Int),t.r.nm,.slice A' n c',.slice B' n d',.string ⟨#[]⟩,(),(),(0:Int),(0:Int),()]) w1.heap.size 207 (catG 1 1 t.r.now t.r.nm A' n c' B' n d' none 0 0)/\(putC w3 w1.heap.size 0 [.int .u64 1,.int .u64 1,(t.r.now:Int),t.r.nm,.slice A' n c',.slice B' n d',.string ⟨#[]⟩,(),(),(0:Int),(0:Int),()]).ownsRow w1.heap.size 167 4 (.slice A' n c') n (t.r.ts.flatMap Ti.cells)/\(putC w3 w1.heap.size 0 [.int .u64 1,.int .u64 1,(t.r.now:Int),t.r.nm,.slice A' n c',.slice B' n d',.string ⟨#[]⟩,(),(),(0:Int),(0:Int),()]).ownsRow w1.heap.size 3 1 (.slice B' n d') n (t.r.all.map (Value.int .i64))/\Below w1.heap.size w1 (putC w3 w1.heap.size 0 [.int .u64 1,.int .u64 1,(t.r.now:Int),t.r.nm,.slice A' n c',.slice B' n d',.string ⟨#[]⟩,(),(),(0:Int),(0:Int),()]) from
            ⟨Jaw z [.int .u64 1,.int .u64 1,(t.r.now:Int),t.r.nm,.slice A' n c',.slice B' n d',.string ⟨#[]⟩,(),(),(0:Int),(0:Int),()] rfl,Jax q G (fun b k e=>(z.not_row q (by decide)) (by rw[k,e])),Jax p G (fun b k e=>(z.not_row p (by decide)) (by rw[k,e])),R.out.trans U⟩)
           have K4:=zI (s.out _ l.out.2.2.2);simp only[putC,qa7,Nat.reduceAdd] at l K4;clear V o U G q p)))
  all_goals
   go_split_ands;go_wp2_with fail
   go_meet;exact⟨_,A',c',B',d',rfl,l.out⟩
 case rest=>
  obtain⟨gc,A',c',B',d',rfl,x,Z,P,E⟩:=hcut;have Hh:=zI (Hf.out.trans (E.mono Hf.out.size));have y:=zI (O.out.below E);have Hi:=zI Z;have Hj:=zI P;have Ht:=zI (Hk.out _ Hh.out);have x0:=x.at_ 0 rfl;have y0:=y.out.at_ 0 rfl;have f0:=y.out.free 0;have x1:=x.at_ 1 rfl;have y1:=y.out.at_ 1 rfl;have f1:=y.out.free 1;have x2:=x.at_ 2 rfl;have y2:=y.out.at_ 2 rfl;have f2:=y.out.free 2;have x3:=x.at_ 3 rfl;have y3:=y.out.at_ 3 rfl;have f3:=y.out.free 3;have x4:=x.at_ 4 rfl;have y4:=y.out.at_ 4 rfl;have f4:=y.out.free 4;have x5:=x.at_ 5 rfl;have y5:=y.out.at_ 5 rfl;have f5:=y.out.free 5;have x6:=x.at_ 6 rfl;have y6:=y.out.at_ 6 rfl;have f6:=y.out.free 6;have x7:=x.at_ 7 rfl;have y7:=y.out.at_ 7 rfl;have f7:=y.out.free 7;have x8:=x.at_ 8 rfl;have y8:=y.out.at_ 8 rfl;have f8:=y.out.free 8;have x9:=x.at_ 9 rfl;have y9:=y.out.at_ 9 rfl;have f9:=y.out.free 9;have x10:=x.at_ 10 rfl;have y10:=y.out.at_ 10 rfl;have f10:=y.out.free 10;have x11:=x.at_ 11 rfl;have y11:=y.out.at_ 11 rfl;have f11:=y.out.free 11;clear x Z P E Hd He s K0 K0a;go_wp2_with fail
  refine Ht.out.mono ?_;rintro e w8 ⟨rfl,hw⟩;subst hw;go_wp2_with fail
  obtain⟨w9,D⟩:=exE (putC wc w.heap.size 0 [.int .u64 1,.int .u64 1,(t.r.now:Int),t.r.nm,.slice A' n c',.slice B' n d',.string ⟨#[]⟩,(),(),(0:Int),(0:Int),()]);have u:=Jaw y.out [.int .u64 1,.int .u64 1,(t.r.now:Int),t.r.nm,.slice A' n c',.slice B' n d',.string ⟨#[]⟩,(),(),(0:Int),(0:Int),()] rfl;have C:=Jaj (B:=w.heap.size) [.int .u64 1,.int .u64 1,(t.r.now:Int),t.r.nm,.slice A' n c',.slice B' n d',.string ⟨#[]⟩,(),(),(0:Int),(0:Int),()] (qab _) wc 0;have hJ:=Jcb (g:=w.heap.size) [.int .u64 1,.int .u64 1,(t.r.now:Int),t.r.nm,.slice A' n c',.slice B' n d',.string ⟨#[]⟩,(),(),(0:Int),(0:Int),()] wc 0;rw[<- D] at u C hJ;simp only[putC,qa7,Nat.reduceAdd] at D;clear x0 x1 x2 x3 x4 x5 x6 x7 x8 x9 x10 x11 y0 y1 y2 y3 y4 y5 y6 y7 y8 y9 y10 y11 f0 f1 f2 f3 f4 f5 f6 f7 f8 f9 f10 f11;rw[<- D];have q0:=u.at_ 0 rfl;have q1:=u.at_ 1 rfl;have q2:=u.at_ 2 rfl;have q3:=u.at_ 3 rfl;have q4:=u.at_ 4 rfl;have q5:=u.at_ 5 rfl;have q6:=u.at_ 6 rfl;have q7:=u.at_ 7 rfl;have q8:=u.at_ 8 rfl;have q9:=u.at_ 9 rfl;have q10:=u.at_ 10 rfl;have q11:=u.at_ 11 rfl;have Hx:w.heap.size+1<=w1.heap.size:=by have:=O.out.lt;omega
  have Z:=Jax Hi.out hJ (fun b k e=>by have:=(Hi.out.lt b k).1;omega);have P:=Jax Hj.out hJ (fun b k e=>by have:=(Hj.out.lt b k).1;omega);obtain⟨A2,c2,e2,Hu⟩:=Jis Z Hp.out Ho.out Hq.out;cases e2
  refine qa6 (v:= .tuple #[.agg #[.int .u64 1,.int .u64 1,(t.r.now:Int),t.r.nm,.slice A' n c',.slice B' n d',.string ⟨#[]⟩,(),(),(0:Int),(0:Int),()],(0:Int)]) (by simp[results,Tryz.results313,go_sem,q0,q1,q2,q3,q4,q5,q6,q7,q8,q9,q10,q11]) rfl ⟨A',c',B',d',by rw[<- HN.out];rfl,by rw[<- HN.out];exact Hu,by rw[<- HN.out];exact Jop Z,fun a e=> ?_,by rw[<- HN.out];exact Jde P (by omega),Hh.out.trans C⟩;have H:=Jck Z a e;have h2:=C.size;exact⟨by have:=H.1;omega,by have:=H.2;omega⟩
def padC (l:List UInt8):List UInt8:=l++zeros ((256 - l.length % 256) % 256)
def nbC (l:List UInt8):Nat:=(l.length+255) / 256
theorem Jil(l:List UInt8):(padC l).length=256*nbC l:=by
 unfold padC nbC;rw[qad,Jbr];omega
def chC (l:List UInt8) (i:Nat):ByteArray:=strOf (((padC l).drop (256*i)).take 256)
theorem Ju6(l:List UInt8)(i:Nat)(h:i<nbC l):(chC l i).size=256:=by
 unfold chC;rw[Jaa,qao,qa2,Jil];omega
def putN (f:Int ->Option ByteArray) (a:Nat) (g:Nat ->ByteArray):Nat ->Int ->Option ByteArray
 | 0=>f
 | k+1=>setS (putN f a g k) ((a+k:Nat):Int) (g k)
theorem J8o(l:List UInt8)(i:Nat)(h:i<nbC l):(strOf (padC l)).extract (256*i) (256*i+256)=chC l i:=by
 unfold chC;have x:=Jil l
 have e:padC l=(padC l).take (256*i)++(((padC l).drop (256*i)).take 256++((padC l).drop (256*i)).drop 256):=by
  rw[qa8,qa8]
 have z:((padC l).take (256*i)).length=256*i:=by rw[qao];omega
 have y:(((padC l).drop (256*i)).take 256).length=256:=by rw[qao,qa2];omega
 apply Ja7
 conv=>lhs;rw[e]
 generalize (padC l).take (256*i)=a at*;generalize ((padC l).drop (256*i)).take 256=b at*;generalize ((padC l).drop (256*i)).drop 256=c at*;rw[<- z,<- y];simp[strOf]
structure ScR (w3 wr:World) (gc g i:Nat) (now:Int) (nm:ByteArray) (A:Option Addr) (n c:Nat) (B:Option Addr) (c2:Nat) (ps:List Pm) (k:Nat) (E:Option Addr) (ec:Nat):Prop where
 chg:Chg (fun b=>b=gc) w3 wr
 box:Bx wr gc 207 (Ja1 g i now nm A n c B c2 E k ec)
 row:wr.ownsRow w3.heap.size 312 6 (.slice E k ec) k ((ps.map Pm.em).flatMap Em.cells)
 lt:gc<w3.heap.size
section
variable {w3 wr w':World} {gc g i:Nat} {now:Int} {nm:ByteArray} {A:Option Addr} {n c:Nat} {B:Option Addr} {c2:Nat} {ps:List Pm} {k:Nat} {E:Option Addr} {ec:Nat}
theorem ScR.below(h:ScR w3 wr gc g i now nm A n c B c2 ps k E ec)(hb:Below wr.heap.size wr w'):ScR w3 w' gc g i now nm A n c B c2 ps k E ec:=
 ⟨h.chg.then_below hb,h.box.below hb,Jaf h.row hb,h.lt⟩
theorem ScR.put(h:ScR w3 wr gc g i now nm A n c B c2 ps k E ec)(p:Pm){E':Option Addr}{ec':Nat}(hg:wr.grownBy w' (Value.slice E k ec).ownBlock)(ho:w'.ownsRow w3.heap.size 312 6 (.slice E' (k+1) ec') (k+1) ((ps.map Pm.em).flatMap Em.cells++p.em.cells)):ScR w3 (w'.setCell ⟨gc,11,none⟩ (.slice E' (k+1) ec')) gc g i now nm A n c B c2 (ps++[p]) (k+1) E' ec':=by
 have z:=Chg.set (F:=fun b=>b=gc) w' ⟨gc,11,none⟩ (.slice E' (k+1) ec') rfl;refine⟨(h.chg.trans (Chg.of_grown (F:=fun b=>(Value.slice E k ec).ownBlock=some b) hg (fun b e=>e)) (fun b hb=> .inr (h.row.lt b hb).1)).trans z (fun b e=> .inl e),(h.box.grown hg (h.box.not_row h.row (by decide))).set 11 _,?_,h.lt⟩;rw[qbg,qav];refine Jax (xs:=_) ?_ z (fun b hb e=> ?_)
 · simpa using ho
 · have y:=(ho.lt b hb).1
   have x:=h.lt;omega
theorem ScR.cat(h:ScR w3 wr gc g i now nm A n c B c2 ps k E ec){ts:List Ti}{fl:List Int}(hT:Tis wr A n ts)(hc:n<=c)(hF:Ints wr .i64 B n fl)(hk:ps.length=k)(hr:∀p∈ps,Ints wr .i64 (adr p.A) p.e.bl.length p.e.bl)(hf:Jik g i now nm ts fl (ps.map Pm.e)):
  Jgz wr (fun _=>True) g i now nm A n c B c2 E k ec ts fl (ps.map Pm.em):=by
 have e1:(ps.map Pm.em).map Em.e=ps.map Pm.e:=by rw[qcl];rfl
 obtain⟨_,_,e,z⟩:=Jao h.row;cases e
 refine⟨hf.hg,hf.hi,hf.hnow,hf.hnm,hT,hc,hf.hck,hF,hf.hflo,⟨z,by rw[qa4,hk],fun m hm=> ?_,fun _ _=>trivial⟩,?_,fun m hm=> ?_,?_,?_,?_⟩
 · obtain⟨p,y,rfl⟩:=qbn.1 hm
   exact⟨hr p y,fun _ _=>trivial⟩
 · have:=hf.hen;rw[qa4,hk] at this;exact this
 · exact hf.hok _ (by rw[<- e1];exact qcu hm)
 · rw[Js8,e1];exact hf.hsh
 · rw[Jln,e1];exact hf.hbl
 · rw[e1];exact hf.hlen
end
theorem J8p{FB FD FT:Nat ->Prop}{gx N C B D R gd gen id mp bk q nP gs room:Nat}{lg:Option Addr}{bad:Int}{pf:Nat ->Nat ->Option PRaw}{us:List Int}{a b m:Option (List Int)}{f:Int ->Option ByteArray}{t:Tv}(A:Option Addr)(np cp:Nat)(ps:List Pm)(w:World)(h:SvS w FB FD gx N C B D R gd gen id mp bk q nP lg bad pf us a b m f)(hL:Jd3 N C B D R)(hS:StAt w FT gs room t)(hP:Jgy w (Apart FB FD gx w) A np ps)(hnp:np<=90)(hfit:Jik (gen+1) id t.r.now t.r.nm t.r.ts t.r.all (ps.map Pm.e))(hG:Glo w)(hnt:t.tabs.length=t.r.ts.length)(hroom:(catB (gen+1) id t.r.now (Py.printL t.r.nm.toList t.r.ts) t.r.all (ps.map Pm.e)).length<=C*256)(hq:q<=700000):
  Cs 247 #[gx,gs,.slice A np cp] w fun e w'=>∃FD' nb l,l=catB (gen+1) id t.r.now (Py.printL t.r.nm.toList t.r.ts) t.r.all (ps.map Pm.e)/\nb=nbC l/\e= .returned (.tuple #[(l.length:Int),(0:Int)])/\
   SvS w' FB FD' gx N C B D R gd gen id mp bk (q+2*nb) nP lg bad pf us a b m (putN f (Jb5 B (gen+1)) (chC l) nb)/\SvT w w' FB FD FB FD' gx:=by
 obtain⟨g1,Hc⟩:=exE (gen+1);rw[<- Hc] at hfit hroom ⊢;obtain⟨es,Hn⟩:=exE (ps.map Pm.e);rw[<- Hn] at hfit hroom ⊢;have Kh:gen+1<18446744073709551616:=by rw[<- Hc];exact hfit.hg.2
 have KS:IntKind.u64.wrap ((gen:Int)+1)=(g1:Int):=by rw[IntWalk.u64_in _ (by omega)];omega
 have Ki:t.tabs.length<=1000:=by rw[hnt];have:=(Py.check_fine hfit.hck).2.2.1;omega
 have Kj:=zI (J91 w hS Ki);have HV:=zI h;have Ho:=zI hP;have KT:=zI hG;have KU:=zI hfit;have Kk:=zI Hn;have KV:=zI hroom;have TI:=zI Hc;have O:=zI hL;obtain⟨n,hn⟩:=exE t.tabs.length;rw[<- hn] at Kj;have HN:=zI (show n=t.r.ts.length from by rw[hn,hnt]);clear h hP hG hfit Hn hroom Hc hL hS hn hnt Ki Kh;go_enter Tryz.func247,Tryz.ntmps247;go_wp2_with fail
 refine Kj.out.mono ?_;rintro e w1 ⟨A1,c1,B1,c2,rfl,Kl,Km,Hp,Kn,Hd⟩;go_upto_region 4 with fail
 obtain⟨gc,M⟩:=exE w1.heap.size;obtain⟨w2,J⟩:=exE (w1.alloc (.cells (Ja1 1 1 t.r.now t.r.nm A1 n c1 B1 c2 none 0 0) 207));have Ko:w1.alloc (.cells #[.int .u64 1,.int .u64 1,(t.r.now:Int),t.r.nm,.slice A1 n c1,.slice B1 n c2,ByteArray.empty,(),(),(0:Int),(0:Int),()] 207)=w2:=by rw[J];rfl
 rw[Ko,<- M];have y:=(qaa w1.heap.size w1).alloc (qab _) (.cells (Ja1 1 1 t.r.now t.r.nm A1 n c1 B1 c2 none 0 0) 207);have He:=Bx.new w1 207 (Ja1 1 1 t.r.now t.r.nm A1 n c1 B1 c2 none 0 0);rw[<- J] at y He;rw[<- M] at He;have Hq:=zI (Hd.trans (y.mono Hd.size));have Y:=zI He;have KW:=zI (Kl.below y);have Kp:=zI (Jaf Kn y);have TJ:=zI (Hp);have KX:=zI Km;have Hr:=zI (show w.heap.size<=gc from by rw[M];exact Hd.size);have Kq:=zI (HV.out.below Hq.out);have x8:=Kq.out.box.at_ 8 (v:= .int .u64 (gen:Int)) rfl;have x9:=Kq.out.box.at_ 9 (v:= .int .u64 (id:Int)) rfl;have z0:=Y.out.at_ 0 rfl;have z1:=Y.out.at_ 1 rfl;have f0:=Y.out.free 0;have f1:=Y.out.free 1;have Kr:=zI (show ∀a,A1=some a ->a.block≠gc from fun a e=>by have:=(Hp a e).2;rw[M];omega);have Ks:=zI (show ∀b,(Value.slice B1 n c2).ownBlock=some b ->b≠gc from fun b hb e=>Y.out.not_row Kp.out (by decide) (by rw[hb,e]));clear y He Ko J M Hd Kl Kn Hp Km;go_region
 obtain⟨w3,V⟩:=exE (((w2.setCell ⟨gc,0,none⟩ (.int .u64 (g1:Int))).setCell ⟨gc,1,none⟩ (.int .u64 (id:Int))).drew);rw[<- V]
 have I:Chg (fun b=>b=gc) w2 w3:=by
  rw[V];exact(((Chg.set (F:=fun b=>b=gc) w2 ⟨gc,0,none⟩ (.int .u64 (g1:Int)) rfl).trans (Chg.set (F:=fun b=>b=gc) _ ⟨gc,1,none⟩ (.int .u64 (id:Int)) rfl) (fun b e=> .inl e)).trans (Chg.of_below (qaa _ _).drew) (fun b e=> .inl e))
 have Hs:Bx w3 gc 207 (Ja1 g1 id t.r.now t.r.nm A1 n c1 B1 c2 none 0 0):=by
  rw[V];exact((Y.out.set 0 (.int .u64 (g1:Int))).set 1 (.int .u64 (id:Int))).drew
 have KY:=I.size;have Hf:=Hr.out;have Kt:gc<w3.heap.size:=Hs.lt;have Ku:=zI (show Below w.heap.size w w3 from Hq.out.trans (I.below (fun b e=>by rw[e];exact Hf) Hq.out.size));have Kv:=zI (show ScR w3 w3 gc g1 id t.r.now t.r.nm A1 n c1 B1 c2 [] 0 none 0 from⟨Chg.refl _ _,Hs,qaz _ _ _ _,Kt⟩);have KZ:=zI (KW.out.chg I Kr.out);have K7:=zI (Jax Kp.out I Ks.out);clear x8 x9 z0 z1 f0 f1 V Hs KY Hf Kt I;have K8:=zI (show ∀wr,Chg (fun b=>b=gc) w3 wr ->Below w.heap.size w wr from fun wr hc=>Ku.out.trans (hc.below (fun b e=>by rw[e];exact Hr.out) Ku.out.size));have Ht:=zI Ho.out.len;have TK:=zI (show gc<w3.heap.size from Kv.out.box.lt);clear KS;go_wp2_with fail
 go_loopw [37] (fun j wr=>∃ (k:Nat) (E:Option Addr) (ec:Nat),k<=np/\j= .int .i64 (k:Int)/\ScR w3 wr gc g1 id t.r.now t.r.nm A1 n c1 B1 c2 (ps.take k) k E ec) (fun j _=>np - (intOf j).toNat)
 case atStart=>exact⟨0,none,0,qaq _,rfl,by simpa using Kv.out⟩
 case round=>
  obtain⟨k,E,ec,hk,rfl,P⟩:=hrel;have H:=zI (K8.out wr P.chg);by_cases Hg:k<np
  · have K:k<ps.length:=by rw[Ht.out];exact Hg
    obtain⟨bA,oA,hA,TL,hc⟩:=(Ho.out.below H.out).get K;have K9:=zI (show ps.take (k+1)=ps.take k++[ps[k]] from qam K);generalize ps[k]'K=p at*;have p0:wr.cell? ⟨bA,oA+k*7,none⟩=some (.int .u64 (p.e.id:Int)):=hc.c0;have p1:wr.cell? ⟨bA,oA+k*7+1,none⟩=some (.int .i64 (p.e.tier:Int)):=hc.c1;have p2:wr.cell? ⟨bA,oA+k*7+2,none⟩=some (.int .i64 (p.e.shard:Int)):=hc.c2;have p3:wr.cell? ⟨bA,oA+k*7+3,none⟩=some (.int .i64 0):=hc.c3;have p4:wr.cell? ⟨bA,oA+k*7+4,none⟩=some (.int .i64 (p.e.bl.length:Int)):=hc.c4;have p5:wr.cell? ⟨bA,oA+k*7+5,none⟩=some (.slice (adr p.A) p.e.bl.length p.c):=hc.c5;have p6:wr.cell? ⟨bA,oA+k*7+6,none⟩=some (.slice (adr p.B) p.l.length p.d):=hc.c6;subst hA;clear hc;obtain⟨gp,Hu⟩:=exE wr.heap.size;obtain⟨wb,Hh⟩:=exE (wr.alloc (.cells #[.int .u64 (p.e.id:Int),(p.e.tier:Int),(p.e.shard:Int),(0:Int),(p.e.bl.length:Int),.slice (adr p.A) p.e.bl.length p.c,.slice (adr p.B) p.l.length p.d] 316));have s:=Bx.new wr 316 #[.int .u64 (p.e.id:Int),(p.e.tier:Int),(p.e.shard:Int),(0:Int),(p.e.bl.length:Int),.slice (adr p.A) p.e.bl.length p.c,.slice (adr p.B) p.l.length p.d];rw[<- Hh,<- Hu] at s;have Hv:=(qaa wr.heap.size wr).alloc (qab _) (.cells #[.int .u64 (p.e.id:Int),(p.e.tier:Int),(p.e.shard:Int),(0:Int),(p.e.bl.length:Int),.slice (adr p.A) p.e.bl.length p.c,.slice (adr p.B) p.l.length p.d] 316);rw[<- Hh] at Hv;have Ta:=zI Hh;have Tb:=zI Hu;have t0:=s.at_ 0 (v:= .int .u64 (p.e.id:Int)) rfl;have t1:=s.at_ 1 (v:= (p.e.tier:Int)) rfl;have t2:=s.at_ 2 (v:= (p.e.shard:Int)) rfl;have t3:=s.at_ 3 (v:= (0:Int)) rfl;have t4:=s.at_ 4 (v:= (p.e.bl.length:Int)) rfl;have t5:=s.at_ 5 (v:= .slice (adr p.A) p.e.bl.length p.c) rfl;have Hw:=P.below Hv;have x11:=Hw.box.at_ 11 (v:= .slice E k ec) rfl;have y:=(qaa wb.heap.size wb).alloc (qab _) (.cells p.em.cells.toArray 312);have o:=zI (Hw.below y);have Kw:=zI (Sl.new wb 312 wb.heap.size p.em.cells p.em.cells.toArray rfl rfl);have Kx:=zI (show ∀u∈p.em.cells,u.oneCell'=true from by have:=Jz5 [p.em];simpa using this);have Tc:=zI (show k+1<=1000000 from by omega);have Hi:=zI (show w3.heap.size<=(wb.alloc (.cells p.em.cells.toArray 312)).heap.size from o.out.chg.size);have Ky:=zI (show p.em.cells.length=1*6 from rfl);have Td:=zI (show p.em.cells=[.int .u64 (p.e.id:Int),.int .i64 (p.e.tier:Int),.int .i64 (p.e.shard:Int),.int .i64 0,.int .i64 (p.e.bl.length:Int),.slice (adr p.A) p.e.bl.length p.c] from rfl);rw[Td.out] at o Kw Kx Hi Ky;clear Hh Hu s Hv P Hw y;go_upto_region 8 with fail
    rw[<- Ta.out,<- Tb.out];clear p0 p1 p2 p3 p4 p5 p6;go_wp2_with (at_builtin;refine Jyg rfl _ _ rfl o.out.row rfl (some ⟨wb.heap.size,0,none⟩) 1 1 _ rfl Ky.out Kw.out Kx.out Tc.out Hi.out ?_;intro E' ec' w5 Kz Hx;have X5:=o.out.box.grown Hx (o.out.box.not_row o.out.row (by decide));have y11:=X5.at_ 11 (v:= .slice E k ec) rfl;have f11:=X5.free 11;clear X5)
    have KC:=zI (o.out.put p Hx Kz);rw[<- K9.out] at KC;clear Kz Hx y11 f11;go_wp2_with fail
    go_roundw
    case rel=>exact⟨k+1,E',ec',by omega,by go_num,KC.out⟩
    case measure=>simp[intOf];omega
  · have Te:k=np:=by omega
    subst Te;have Tf:=zI (show ps.take k=ps from qap (by rw[Ht.out];exact qab _));rw[Tf.out] at P;have U:=KU.out;rw[Kk.out] at U;have hT:=KZ.out.chg P.chg Kr.out;have hF:=Jax K7.out P.chg Ks.out;obtain⟨_,_,e2,KD⟩:=Jao hF;cases e2
    have hI:Ints wr .i64 B1 n t.r.all:=⟨KD,by rw[U.hfn];exact HN.out.symm,by rw[HN.out];have:=(Py.check_fine U.hck).2.2.1;unfold maxLen;omega,fun z hz=>Jcd (by have:=U.hflo z hz;omega)⟩;have KE:=P.cat hT KX.out hI Ht.out (fun p hp=>((Ho.out.below H.out).row p hp).bl) U;have Hm:=zI (J08 g1 id t.r.now t.r.nm A1 n c1 B1 c2 E k ec t.r.ts t.r.all (ps.map Pm.em) wr KE (KT.out.below H.out));rw[show(ps.map Pm.em).map Em.e=es from by rw[Kk.out,qcl];rfl] at Hm;obtain⟨x0,x1,x2,x3,x4,x5,x6,x7,x8,x9,x10,x11⟩:=Jbm P.box;have Tg:=zI P.box;have TM:=zI P.lt;have TN:=zI P.chg;clear U hT hF KD hI KE P;go_wp2_with fail
    refine Hm.out.mono ?_;rintro e w4 ⟨rfl,Hy⟩;have Th:=zI (Tg.out.below Hy);have Hz:=zI (H.out.trans (Hy.mono H.out.size));have Tj:=zI (HV.out.below Hz.out);have y4:=Tj.out.box.at_ 4 (v:= (C:Int)) rfl;obtain⟨l,hl⟩:=exE (catB g1 id t.r.now (Py.printL t.r.nm.toList t.r.ts) t.r.all es);rw[<- hl];have KG:=KV.out;have TO:C<=30:=O.out.bd.2.1;rw[<- hl] at KG;obtain⟨L,Hj⟩:=exE l.length;rw[<- Hj] at KG;have KH:(strOf l).size=L:=(by rw[Jaa,Hj]);have d1:decide ((C:Int)*256<(L:Int))=false:=qae (by omega);have HL:=zI hl;have H0:=zI Hj;have TP:=zI KH;have H9:=zI (Jof ((256 - L % 256) % 256) w4 (by omega));obtain⟨S,hS⟩:=exE (strOf l);rw[<- hS] at KH ⊢;have HS:=zI hS;clear x0 x1 x2 x3 x4 x5 x6 x7 x8 x9 x10 x11 hl Hj hS Hy;obtain⟨z,hz⟩:=exE ((256 - L % 256) % 256);rw[<- hz] at H9;obtain⟨Z,hZ⟩:=exE (strOf (zeros z));rw[<- hZ] at H9;have TQ:Z.size=z:=(by rw[hZ,Jaa,Jbr]);obtain⟨nb,Hk⟩:=exE (nbC l);have hJ:(strOf (padC l)).size=256*nb:=(by rw[Jaa,Jil,Hk])
    have Ka:S++Z=strOf (padC l):=by
     rw[HS.out,hZ];unfold padC;rw[hz,H0.out];exact Jc8 l _
    obtain⟨T,hT⟩:=exE (strOf (padC l));rw[<- hT] at hJ Ka;have KI:nb=(L+255) / 256:=by rw[Hk,H0.out];rfl
    have TR:z<=255:=(by omega);have HZ:=zI hZ;have Tk:=zI Ka;have Tm:=zI hJ;have Tn:=zI hT;have Kb:=zI Hk;have TT:=zI KI;have TU:=zI hz;have KJ:=O.out.bd;have KK:nb<=C:=(by omega);have KL:=zI KK;clear hZ Ka hJ hT Hk KI KK KJ;go_wp2_with fail
    rw[show(-((L:Int) % 256) % 256)=((z:Nat):Int) from by rw[hz];omega];refine H9.out.mono ?_;rintro e w5 ⟨rfl,Kc⟩;have KM:=zI (Th.out.below Kc);have KN:=zI (Hz.out.trans (Kc.mono Hz.out.size));have To:=zI (HV.out.below KN.out);clear hz Kc y4 d1;go_upto_region 15 with fail
    rw[Tk.out];have hJ:=Tm.out;have Tp:=zI (show ∀x,FB x ->x<w.heap.size from HV.out.book.ins);have Tq:=zI (show ∀x,FD x ->x<w.heap.size from HV.out.disk.ins);have Hf:=Hr.out;have Tr:=HV.out.box.lt;have Ts:=zI (show Apart FB FD gx w5 gc from⟨fun h=>by have:=Tp.out _ h;omega,fun h=>by have:=Tq.out _ h;omega,by omega,KM.out.lt⟩);clear Hf Tr;go_wp2_with fail
    go_loopw [14,15] (fun i _ wr=>∃ (j:Nat) (FDr:Nat ->Prop),j<=nb/\i= .int .i64 ((256*j:Nat):Int)/\SvS wr FB FDr gx N C B D R gd gen id mp bk (q+2*j) nP lg bad pf us a b m (putN f (Jb5 B g1) (chC l) j)/\SvT w5 wr FB FD FB FDr gx) (fun i _ _=>256*nb - (intOf i).toNat)
    case atStart=>exact⟨0,FD,qaq _,rfl,by simpa[putN] using To.out,SvT.refl _ _ _ _⟩
    case round=>
     obtain⟨j,FDr,hj,rfl,hV,hT⟩:=hrel;have KO:=Dj.symm (F:=fun x=>x=gx\/FB x\/FD x) (G:=Apart FB FD gx w5) (fun x h1 h2=>Apart.not x h2 h1);have Ha:=zI hV;have KP:=zI hT;have KQ:=zI (KM.out.chg hT.chg (KO gc Ts.out));clear hV hT KO;by_cases Hg:j<nb
     · have Kd:=(qaa wr.heap.size wr).drew
       have Hl:=zI (Ha.out.below Kd);have Tt:=O.out.bd;have hn:=O.out.n;have Tu:=KL.out;have KR:Jb5 B g1+j<N:=by unfold Jb5;split<;>omega
       have Tw:=zI ((DsW.start Hl.out.disk).write (Jb5 B g1+j) KR (chC l j) (Ju6 l j (by rw[<- Kb.out];exact Hg)) (by omega));have Tx:=zI (fun W (hW:Bo W gx (Jdm N C B D R ⟨gd,0,none⟩ gen id mp bk lg bad))=>Jur g1 hW);have Ty:=zI (KQ.out.below Kd);have Tz:=zI Hl.out.box;have c0:=KQ.out.at_ 0 (v:= .int .u64 (g1:Int)) rfl;have c0':=Ty.out.at_ 0 (v:= .int .u64 (g1:Int)) rfl;have x7:=Ha.out.box.at_ 7 (v:= gd) rfl;have x7':=Hl.out.box.at_ 7 (v:= gd) rfl;have Ke:=zI (J8o l j (by rw[<- Kb.out];exact Hg));rw[<- Tn.out] at Ke;obtain⟨i,hi⟩:=exE (256*j);rw[<- hi] at Ke ⊢;have hq:(i:Int) / 256=(j:Int):=by rw[hi];omega
       have TA:i+256<=T.size:=(by omega);have TV:i<=10000:=(by omega);have TW:Jb5 B g1+j<=5000:=(by omega);have HI:=zI hi
       have Hi:=zI (show Cs 28 #[gd,(((Jb5 B g1:Nat):Int)+(j:Int):Int),(T.extract i (i+256))] wr.drew fun e w'=>e= .returned (0:Int)/\DsW wr.drew FDr w' gd N (q+2*(j+1)) (putN f (Jb5 B g1) (chC l) (j+1)) from by
        rw[Ke.out,show(((Jb5 B g1:Nat):Int)+(j:Int))=((Jb5 B g1+j:Nat):Int) from by omega,show q+2*(j+1)=q+2*j+2 from by omega];exact Tw.out)
       have TB:(i:Int)+256<=(T.size:Int):=(by omega);have TC:(i:Int).tdiv 256=(j:Int):=by rw[Int.tdiv_eq_ediv_of_nonneg (by omega),hi];omega
       have TD:IntKind.i64.wrap ((i:Int)+256)=(i:Int)+256:=qbd _ (by omega);have J:(0:Int)<=(i:Int)+256:=(by omega);have V:((i:Int)+256).toNat=i+256:=(by omega);have TE:IntKind.i64.wrap (((Jb5 B g1:Nat):Int)+(j:Int))=((Jb5 B g1+j:Nat):Int):=by rw[qbd _ (by omega)];omega
       clear Kd Tt hn Tu KR hi hJ;go_upto_region 18 with fail
       go_region_with (first
        | (go_at_call 211
           refine(Tx.out _ Tz.out).mono ?_;rintro e w8 ⟨rfl,TF⟩;subst TF)
        | (go_simp
           go_at_call 28
           refine Hi.out.mono ?_;rintro e w8 ⟨rfl,Hb⟩))
       all_goals
        have g:=Hl.out.disked Hb;have Kf:=zI g.1;have Kg:=zI ((KP.out.trans (SvT.of_below FB FDr gx (qaa wr.heap.size wr).drew)).trans g.2);clear g Hb x7 x7' c0 c0' hq TC TD J V TE TA TB;go_wp2_with fail
        go_roundw
        case rel=>exact⟨j+1,_,by omega,by rw[HI.out];go_num,Kf.out,Kg.out⟩
        case measure=>have hI:=HI.out;simp[intOf];omega
     · have TG:j=nb:=by omega
       subst TG;have TH:=zI ((DsW.start Ha.out.disk).flush (by have:=KL.out;have:=O.out.bd;omega));have x7:=Ha.out.box.at_ 7 (v:= gd) rfl;go_wp2_with fail
       refine TH.out.mono ?_;rintro e w8 ⟨rfl,Hb⟩;have g:=Ha.out.disked Hb;have Kg:=zI (((SvT.of_below FB FD gx KN.out).trans KP.out).trans g.2);have Kf:=zI g.1;clear g Hb x7;go_wp2_with fail
       go_ret2;exact⟨_,j,l,HL.out,Kb.out,by rw[<- H0.out];rfl,Kf.out,Kg.out⟩
