/- Laws that the walk of the last text wants. -/
import Derived.Test.YtglmhddbhhcjdaaGreatDoorC12
import Derived.Test.YtglmhddbhhcjdaaGreatDoorC20
import Derived.Test.YtglmhddbhhcjdaaGreatDoorC22
import Derived.Test.YtglmhddbhhcjdaaGreatDoorC14
set_option maxRecDepth 100000
set_option linter.unusedSimpArgs false
set_option maxHeartbeats 4000000
namespace Go.Proofs.YtglmhddbhhcjdaaGreatDoor
open Go.RowKit
theorem Jwp{t:Tv}{n:Nat}(h:n=t.tabs.length):(List.range n).map t.tab=t.tabs:=by
 apply qc7
 · simp[h]
 · intro i y z
   simp[Tv.tab,z]
structure J9w (w w':World) (A:Option Addr) (n c:Nat) (B:Option Addr) (m:Nat) (r:Rch):Prop where
 at_:Jem w' A n B m r
 inA:AIn (made w w') A
 inB:AIn (made w w') B
 cap:n<=c
 bel:Below w.heap.size w w'
theorem J77(now:Int)(nm:ByteArray)(A:Option Addr)(n c:Nat)(ts:List Ti)(B:Option Addr)(m d:Nat)(fs:List Int)(w:World)(hA:Tis w A n ts)(hB:Ints w .i64 B m fs)(hn:n<=1000000)(hm:m<=1000000)(hnow: -9223372036854775808<=now/\now<=9223372036854775807)(W:World)(hW:Below w.heap.size w W):
  Cs 97 #[polV nm A n c,(now:Int),.slice B m d] W fun e w'=>∃A' c' B' d',e= .returned (rchV now nm A' n c' B' m d')/\J9w w w' A' n c' B' m ⟨now,nm,ts,fs⟩:=by
 refine(Jkt now nm A n c ts B m d fs W (hA.below hW) (hB.below hW) hn hm hnow).mono ?_;rintro e w' ⟨A',c',B',d',rfl,y,z,x,v⟩;exact⟨A',c',B',d',rfl,y,fun a e=>Jc5 (Jck z a e) hW.size,fun a e=>Jc5 (Jck x a e) hW.size,Jt6 z,hW.trans (v.mono hW.size)⟩
theorem Jic{F:Nat ->Prop}{g:Nat}{t:Tv}(w:World)(h:Jag w F g t):
  Cs 57 #[g] w fun e w'=>∃g',e= .returned (g':Nat)/\Jag w' (made w w') g' t/\Below w.heap.size w w':=by
 obtain⟨A,c,B,m,d,L,cl,ga,gm,o,R,hc,hm,D,C,Y⟩:=h.ex;obtain⟨n,E⟩:=exE t.tabs.length;have hJ:n<=1000:=by rw[E];exact h.few
 have Ha:=zI h.nm;rw[<- E] at o R hc Y;have HN:=zI E;have Hb:=zI (J77 t.r.now t.r.nm A n c t.r.ts B m d t.r.fs w R.ts R.fs (by omega) (by omega) R.now);have p:=zI o;have HT:=zI Y;have s0:=o.at_ 0 rfl;have s1:=o.at_ 1 rfl;have s2:=o.at_ 2 rfl;have s3:=o.at_ 3 rfl;have s4:=o.at_ 4 rfl;clear h E o R Y D C;go_enter Tryz.func57,Tryz.ntmps57;have HD:=zI ((qaa w.heap.size w).drew);have s:=zI (p.out.below HD.out);go_wp2_with fail
 go_region_held3 (fun w'=>w'.cell? ⟨g,0,none⟩=some (.int .i64 t.r.now)/\w'.cell? ⟨g,1,none⟩=some (.string t.r.nm)/\w'.cell? ⟨g,2,none⟩=some (.slice A n c)/\w'.cell? ⟨g,3,none⟩=some (.slice B m d)/\Below w.heap.size w w')
  (first
    | exact⟨s.out.at_ 0 rfl,s.out.at_ 1 rfl,s.out.at_ 2 rfl,s.out.at_ 3 rfl,HD.out⟩
    | (go_split_ands
       have z:=y.bel;exact⟨(p.out.below z).at_ 0 rfl,(p.out.below z).at_ 1 rfl,(p.out.below z).at_ 2 rfl,(p.out.below z).at_ 3 rfl,z⟩)
    | (go_split_ands
       have z:=qc8 y.bel (Below.size y.bel) (.cells #[(t.r.now:Int),t.r.nm,.slice A' n c',.slice B' m d',()] 164);exact⟨(p.out.below z).at_ 0 rfl,(p.out.below z).at_ 1 rfl,(p.out.below z).at_ 2 rfl,(p.out.below z).at_ 3 rfl,z⟩))
  ((go_at_call 97;go_split_ands;refine(Hb.out _ (by assumption)).mono ?_;rintro e w4 ⟨A',c',B',d',rfl,y⟩))
 have x:=zI y;have b:=zI (p.out.below (y.bel.alloc y.bel.size (.cells #[(t.r.now:Int),t.r.nm,.slice A' n c',.slice B' m d',()] 164)));have Hc:=zI (Bx.new w4 164 #[(t.r.now:Int),t.r.nm,.slice A' n c',.slice B' m d',()]);have Hd:=zI ((qaa w4.heap.size w4).alloc (qab _) (.cells #[(t.r.now:Int),t.r.nm,.slice A' n c',.slice B' m d',()] 164));have s5:=(p.out.below y.bel).at_ 4 rfl;have Hr:=(p.out.below y.bel).lt;clear y s0 s1 s2 s3 s4;go_wp2_with fail
 go_loopw [31] (fun i wr=>∃k:Nat,k<=n/\i= .int .i64 (k:Int)/\TNew w4 wr t.r.now t.r.nm (.slice A' n c') (.slice B' m d') t.r.ts t.tab k) (fun i _=>n - (intOf i).toNat)
 case atStart=>exact⟨0,qaq _,rfl,⟨(),fun _=>0,fun _=>0,Hc.out,⟨qaz _ _ _ _,by omega,by omega,by omega⟩⟩,Hd.out⟩
 case round=>
  obtain⟨q,hq,rfl,Y⟩:=hrel;by_cases V:q<n
  · obtain⟨⟨v,gb,gn,o,U⟩,l⟩:=Y
    have a:=x.out.bel.trans (l.mono x.out.bel.size);have P:=zI (fun W (hW:Below wr.heap.size wr W)=>Jpm ((HT.out.tab q V).below (a.trans (hW.mono a.size))));obtain⟨bl,ol,rfl,Hs,Ht⟩:=Jt7 (HT.out.row.below a) V;obtain⟨Lv,cv,rfl,_⟩:=Jao U.row;have b:=zI o;have O:=zI U;have T:=zI l;have He:=zI (show t.r.ev q=evF t.r.ts q from rfl);rw[He.out] at P;have j:=(qaa wr.heap.size wr).drew;have s:=zI (b.out.below j);have Hf:=zI (O.out.below j);have N:=zI (T.out.trans (j.mono T.out.size));have Hg:=zI j;have HQ:=zI (show q+1<=1000000 from by omega);have p4:=b.out.at_ 4 rfl;clear o U l a j;generalize t.tab=tab at*;go_upto_region 7 with fail
    go_region_law (first
     | (refine Jyf (by rfl) _ _ (by rfl) M.out.row (by rfl) (some ⟨w6.heap.size,0,none⟩) 1 1 [g6] (by rfl) rfl Hh.out Hi.out HQ.out Hj.out.size ?_
        intro A7 c7 w7 Hk K;have X8:=zI (S.out.grown K (S.out.not_row M.out.row (by decide)));have d8:=X8.out.at_ 4 rfl;have f8:=X8.out.free 4)
     | (go_simp
        go_at_call 121
        refine(P.out _ Hg.out).mono ?_;rintro e w6 ⟨g6,m6,rfl,J,Z,I,H⟩;have f:=Z.alloc Z.size (.cells #[g6] 165);have Hl:=zI (s.out.below Z);have S:=zI (s.out.below f);have M:=zI (Hf.out.below f);have Hj:=zI (N.out.trans (f.mono N.out.size));have Hm:=zI (J.below ((qaa w6.heap.size w6).alloc (qab _) (.cells #[g6] 165)));have Hn:=zI f;have Hh:=zI (Sl.new w6 165 w6.heap.size [g6] #[g6] rfl rfl);have Hi:=zI (show ∀u∈[Value.pointer (some ⟨g6,0,none⟩)],u.oneCell'=true from by intro u hu;rw[qa1.1 hu];rfl);have G:=zI (And.intro I H);have d6:=Hl.out.at_ 4 rfl;have d7:=S.out.at_ 4 rfl;clear J Z f I H))
    all_goals
     have Ho:TNew w4 (w7.setCell ⟨w4.heap.size,4,none⟩ (.slice A7 (q+1) c7)) t.r.now t.r.nm (.slice A' n c') (.slice B' m d') t.r.ts tab (q+1):=
      TNew.next b.out O.out T.out Hm.out (((qaa _ _).drew).trans (Hn.out.mono (by simp))) G.out.1 G.out.2 Hk K
     go_wp2_with fail
     go_roundw
     case rel=>exact⟨q+1,by omega,by go_num,Ho⟩
     case measure=>simp[intOf];omega
  · have Hp:q=n:=by omega
    subst Hp;have Hq:=zI (x.out.bel.trans (Y.bel.mono x.out.bel.size))
    have HE:=zI (show Jag wr (made w wr) w4.heap.size t from by
     have:=TNew.done (w:=w) (r:=t.r) Y x.out.at_ x.out.inA x.out.inB x.out.cap hm x.out.bel.size hJ Ha.out
     rwa [show(List.range q).map t.tab=t.tabs from Jwp HN.out] at this)
    clear Y;go_wp2_with fail
    go_ret;exact⟨_,rfl,HE.out,Hq.out⟩
end Go.Proofs.YtglmhddbhhcjdaaGreatDoor
namespace Go.Proofs.YtglmhddbhhcjdaaGreatDoor.Py
open Go.ChangeShapes Go.WideShapes Go.ChangeAt Go.RowKit Go.Deep
def readT (s:ByteArray):Rd:=match Jdw s with
 | .bad e a=> .bad e a
 | .good nm ts=>if (checkR nm ts).1=0 then .good nm ts else .bad (checkR nm ts).1 (checkR nm ts).2
theorem Jmu(nm:List UInt8):∀ (f:Nat) (l:List Wd) (acc:List Ti) (e a:Int),Jg1 nm f l acc= .bad e a ->e=22
 | 0,_,_,_,_,h=>by simp[Jg1] at h
 | f +1,l,acc,e,a,h=>by
   unfold Jg1 at h;split at h
   · cases h
   · split at h
     · exact Jmu nm f _ _ e a h
     · injection h with z _;exact z.symm
theorem Jwq{s:ByteArray}{e a:Int}(h:Jdw s= .bad e a):e=2\/e=22:=by
 unfold Jdw at h;split at h
 · injection h with z _;exact .inl z.symm
 · split at h
   · injection h with z _;exact .inr z.symm
   · unfold Jdg at h
     split at h
     · exact .inr (Jmu _ _ _ _ _ _ h)
     · injection h with z _;exact .inr z.symm
theorem read_any(s:ByteArray)(w:World)(hs:s.size<=maxLen)(hm:∃m:Int,w.cell? ⟨0,0,none⟩=some (.int .i64 m)):
  Cs 39 #[s] w fun e w'=>Jd4 (readT s) w.heap.size e w'/\Below w.heap.size w w':=by
 have a:0<w.heap.size:=by obtain⟨m,h⟩:=hm;have:=block_lt_of_cell h;simpa using this
 have y:Below w.heap.size w (w.alloc (.cells #[ByteArray.empty,()] 101)):=(qaa _ w).alloc (qab _) _;have b0:=Bx.new w 101 #[ByteArray.empty,()];have i:=zI (Jzo s (w.alloc (.cells #[ByteArray.empty,()] 101)) hs (hm.imp fun m h=>(y.cell (p:=⟨0,0,none⟩) a).trans h));cases hP:Jdw s with
 | bad k at_=>
   have Z:=Jwq hP;have l:=zI (show readT s= .bad k at_ from by unfold readT;rw[hP]);rw[hP] at i;unfold Jd4 at i;rw[l.out];unfold Jd4;have P:(k !=0)=true:=bne_iff_ne.2 (by omega);clear Z hP l;go_enter Tryz.func39,Tryz.ntmps39
   go_wp2_with (first
    | (go_at_call 94;refine i.out.mono ?_;rintro e w1 ⟨rfl,u⟩
       have t:=(qaa w1.heap.size w1).alloc (qab _) (.cells #[ByteArray.empty,()] 101);have b1:=(b0.below u).below t;have bp:=Bx.new w1 101 #[ByteArray.empty,()];have r:=(y.trans (u.mono y.size)).trans (t.mono (y.trans (u.mono y.size)).size);have q0:=b1.at_ 0 rfl;have q1:=b1.at_ 1 rfl;have f0:=b1.free 0;have f1:=b1.free 1))
   have X:=((b1.set 0 (.string ⟨#[]⟩)).set 1 ());have x0:(((w1.alloc (.cells #[ByteArray.empty,()] 101)).setCell ⟨w.heap.size,0,none⟩ (.string ⟨#[]⟩)).setCell ⟨w.heap.size,1,none⟩ ()).cell? ⟨w.heap.size,0,none⟩=some (.string ⟨#[]⟩):=X.at_ 0 rfl;have x1:(((w1.alloc (.cells #[ByteArray.empty,()] 101)).setCell ⟨w.heap.size,0,none⟩ (.string ⟨#[]⟩)).setCell ⟨w.heap.size,1,none⟩ ()).cell? ⟨w.heap.size,1,none⟩=some (.slice none 0 0):=X.at_ 1 rfl;have x:Below w.heap.size w (((w1.alloc (.cells #[ByteArray.empty,()] 101)).setCell ⟨w.heap.size,0,none⟩ (.string ⟨#[]⟩)).setCell ⟨w.heap.size,1,none⟩ ()):=(r.setCell (qab _) _).setCell (qab _) _;clear X;generalize HW:(((w1.alloc (.cells #[ByteArray.empty,()] 101)).setCell ⟨w.heap.size,0,none⟩ (.string ⟨#[]⟩)).setCell ⟨w.heap.size,1,none⟩ ())=W at x0 x1 x ⊢;refine qa6 (v:= .tuple #[polV ⟨#[]⟩ none 0 0,(k:Int),(at_:Int)]) (by simp[results,Tryz.results39,go_sem,x0,x1]) rfl ⟨?_,x⟩;rfl
 | good nm ts=>
   have U:=zI (show readT s=if (checkR nm ts).1=0 then .good nm ts else .bad (checkR nm ts).1 (checkR nm ts).2 from by unfold readT;rw[hP]);rw[hP] at i;unfold Jd4 at i;by_cases b:(checkR nm ts).1=0
   · have T:=Jhj b
     have l:=zI (show readT s= .good nm ts from by rw[U.out,qa0 b]);rw[l.out];unfold Jd4;clear U hP b l;go_enter Tryz.func39,Tryz.ntmps39
     go_wp2_with (first
      | (go_at_call 94;refine i.out.mono ?_;rintro e w1 ⟨⟨A,c,rfl,z,n,Y,V⟩,u⟩
         have t:=(qaa w1.heap.size w1).alloc (qab _) (.cells #[.string ⟨nm.toArray⟩,.slice A ts.length c] 101);have b1:=(b0.below u).below t;have bp:=Bx.new w1 101 #[.string ⟨nm.toArray⟩,.slice A ts.length c];have r:=(y.trans (u.mono y.size)).trans (t.mono (y.trans (u.mono y.size)).size);have q0:=b1.at_ 0 rfl;have q1:=b1.at_ 1 rfl;have f0:=b1.free 0;have f1:=b1.free 1;have g:(⟨nm.toArray⟩:ByteArray).size<=maxLen:=by rw[<- Jac,toList_mk];unfold maxLen;omega
         have j:=zI z;have f:=zI (show Tis w1 A ts.length ts from by obtain⟨A',c',e,S⟩:=Jis z rfl n (by unfold maxLen;omega);cases e;exact S);have d:ts.length<=c:=by obtain⟨_,_,e,h,_⟩:=own_slice z;cases e;exact h
         clear z)
      | (go_at_call 95;refine(check_any ⟨nm.toArray⟩ A ts.length c ts _ g (f.out.below t) d).mono ?_;rw[toList_mk,T];rintro e w2 ⟨rfl,q⟩
         have b4:=b1.below q;have bq:=bp.below q;have r0:=bq.at_ 0 rfl;have r1:=bq.at_ 1 rfl;have q0:=b4.at_ 0 rfl;have q1:=b4.at_ 1 rfl;have f0:=b4.free 0;have f1:=b4.free 1))
     have o:((w2.setCell ⟨w.heap.size,0,none⟩ (.string ⟨nm.toArray⟩)).setCell ⟨w.heap.size,1,none⟩ (.slice A ts.length c)).ownsRow w.heap.size 167 4 (.slice A ts.length c) ts.length (ts.flatMap Ti.cells):=by
      have R:=own_below (own_below j.out t) q;refine Jkc (Jbz (Jbz R (fun k Z e=> ?_) _) (fun k Z e=> ?_) _) (by simp)
      · have:=(R.lt k Z).1;simp at this e;omega
      · have:=(R.lt k Z).1;simp at this e;omega
     have X:=((b4.set 0 (.string ⟨nm.toArray⟩)).set 1 (.slice A ts.length c));have x0:((w2.setCell ⟨w.heap.size,0,none⟩ (.string ⟨nm.toArray⟩)).setCell ⟨w.heap.size,1,none⟩ (.slice A ts.length c)).cell? ⟨w.heap.size,0,none⟩=some (.string ⟨nm.toArray⟩):=X.at_ 0 rfl;have x1:((w2.setCell ⟨w.heap.size,0,none⟩ (.string ⟨nm.toArray⟩)).setCell ⟨w.heap.size,1,none⟩ (.slice A ts.length c)).cell? ⟨w.heap.size,1,none⟩=some (.slice A ts.length c):=X.at_ 1 rfl;have x:Below w.heap.size w ((w2.setCell ⟨w.heap.size,0,none⟩ (.string ⟨nm.toArray⟩)).setCell ⟨w.heap.size,1,none⟩ (.slice A ts.length c)):=((r.trans (q.mono r.size)).setCell (qab _) _).setCell (qab _) _;clear X;generalize HW:((w2.setCell ⟨w.heap.size,0,none⟩ (.string ⟨nm.toArray⟩)).setCell ⟨w.heap.size,1,none⟩ (.slice A ts.length c))=W at x0 x1 x ⊢;refine qa6 (v:= .tuple #[polV ⟨nm.toArray⟩ A ts.length c,(0:Int),(0:Int)]) (by simp[results,Tryz.results39,go_sem,x0,x1]) rfl ⟨?_,x⟩;rw[HW] at o;exact⟨A,c,rfl,o,n,Y,V⟩
   · have l:=zI (show readT s= .bad (checkR nm ts).1 (checkR nm ts).2 from by rw[U.out,qay b])
     rw[l.out];unfold Jd4;have O:((checkR nm ts).1 !=0)=true:=bne_iff_ne.2 b;clear U hP b l;go_enter Tryz.func39,Tryz.ntmps39
     go_wp2_with (first
      | (go_at_call 94;refine i.out.mono ?_;rintro e w1 ⟨⟨A,c,rfl,z,n,Y,V⟩,u⟩
         have t:=(qaa w1.heap.size w1).alloc (qab _) (.cells #[.string ⟨nm.toArray⟩,.slice A ts.length c] 101);have b1:=(b0.below u).below t;have bp:=Bx.new w1 101 #[.string ⟨nm.toArray⟩,.slice A ts.length c];have r:=(y.trans (u.mono y.size)).trans (t.mono (y.trans (u.mono y.size)).size);have q0:=b1.at_ 0 rfl;have q1:=b1.at_ 1 rfl;have f0:=b1.free 0;have f1:=b1.free 1;have g:(⟨nm.toArray⟩:ByteArray).size<=maxLen:=by rw[<- Jac,toList_mk];unfold maxLen;omega
         have j:=zI z;have f:=zI (show Tis w1 A ts.length ts from by obtain⟨A',c',e,S⟩:=Jis z rfl n (by unfold maxLen;omega);cases e;exact S);have d:ts.length<=c:=by obtain⟨_,_,e,h,_⟩:=own_slice z;cases e;exact h
         clear z)
      | (go_at_call 95;refine(check_any ⟨nm.toArray⟩ A ts.length c ts _ g (f.out.below t) d).mono ?_;rw[toList_mk];rintro e w2 ⟨rfl,q⟩
         have b4:=b1.below q;have q0:=b4.at_ 0 rfl;have q1:=b4.at_ 1 rfl;have f0:=b4.free 0;have f1:=b4.free 1))
     have X:=((b4.set 0 (.string ⟨#[]⟩)).set 1 ());have x0:((w2.setCell ⟨w.heap.size,0,none⟩ (.string ⟨#[]⟩)).setCell ⟨w.heap.size,1,none⟩ ()).cell? ⟨w.heap.size,0,none⟩=some (.string ⟨#[]⟩):=X.at_ 0 rfl;have x1:((w2.setCell ⟨w.heap.size,0,none⟩ (.string ⟨#[]⟩)).setCell ⟨w.heap.size,1,none⟩ ()).cell? ⟨w.heap.size,1,none⟩=some (.slice none 0 0):=X.at_ 1 rfl;have x:Below w.heap.size w ((w2.setCell ⟨w.heap.size,0,none⟩ (.string ⟨#[]⟩)).setCell ⟨w.heap.size,1,none⟩ ()):=((r.trans (q.mono r.size)).setCell (qab _) _).setCell (qab _) _;clear X;generalize HW:((w2.setCell ⟨w.heap.size,0,none⟩ (.string ⟨#[]⟩)).setCell ⟨w.heap.size,1,none⟩ ())=W at x0 x1 x ⊢;refine qa6 (v:= .tuple #[polV ⟨#[]⟩ none 0 0,((checkR nm ts).1:Int),((checkR nm ts).2:Int)]) (by simp[results,Tryz.results39,go_sem,x0,x1]) rfl ⟨?_,x⟩;rfl
def webTs:List Ti:=[⟨⟨#[114,97,119]⟩,1,100,2⟩,⟨⟨#[116,101,110,115]⟩,10,1000,1⟩]
def webNm:List UInt8:=[119,101,98]
def webB:ByteArray:=⟨([112,111,108,105,99,121,32,119,101,98,10,116,105,101,114,32,114,97,119,32,101,118,101,114,121,32,49,32,107,101,101,112,32,49,48,48,32,115,104,97,114,100].append [115,32,50,10,116,105,101,114,32,116,101,110,115,32,101,118,101,114,121,32,49,48,32,107,101,101,112,32,49,48,48,48,32,115,104,97,114,100,115,32,49,10]).toArray⟩
theorem web_check:checkR webNm webTs=(0,0):=by decide+kernel
theorem Jst{u:Nat}(h: ¬ u<10):Lib.decDigits u=Lib.decDigits (u / 10)++[UInt8.ofNat (48+u % 10)]:=by rw[Lib.decDigits,dif_neg h]
theorem Jzw:printL webNm webTs=webB.toList:=by
 have d1:Lib.itoa 1=[49]:=by rw[Jc1 (by decide)];exact Lib.decDigits_one (by decide)
 have d2:Lib.itoa 2=[50]:=by rw[Jc1 (by decide)];exact Lib.decDigits_one (by decide)
 have d10:Lib.itoa 10=[49,48]:=by rw[Jc1 (by decide)];exact Lib.decDigits_two (by decide) (by decide)
 have d100:Lib.itoa 100=[49,48,48]:=by
  rw[Jc1 (by decide)];show Lib.decDigits 100=_;rw[Jst (by decide),Lib.decDigits_two (by decide) (by decide)];rfl
 have d1000:Lib.itoa 1000=[49,48,48,48]:=by
  rw[Jc1 (by decide)];show Lib.decDigits 1000=_;rw[Jst (by decide),Jst (by decide),Lib.decDigits_two (by decide) (by decide)];rfl
 unfold printL webTs Jf8;simp only[qau,qbt,d1,d2,d10,d100,d1000,qaw];rfl
theorem Jsu:∀t∈webTs,t.Fine:=(check_fine web_check).2.2.2.1
theorem web_read:readT webB= .good webNm webTs:=by
 have h:=Jmt webNm webTs webB (by decide) (by decide+kernel) Jsu (by decide) (Jzw ▸ Exp.refl _);unfold readT;rw[h];simp only[web_check];rfl
theorem mk_toList(s:ByteArray):(⟨s.toList.toArray⟩:ByteArray)=s:=by rw[qaw]
theorem readT_print{nm:List UInt8}{ts:List Ti}(h:checkR nm ts=(0,0)):readT ⟨(printL nm ts).toArray⟩= .good nm ts:=by
 obtain⟨z,v,y,x,_⟩:=check_fine h;have w:(⟨(printL nm ts).toArray⟩:ByteArray).size<=4000:=by rw[<- Jac,toList_mk];have:=print_len z x y;omega
 have e:=Jmt nm ts ⟨(printL nm ts).toArray⟩ w z x y (by rw[toList_mk];exact Exp.refl _);unfold readT;rw[e];simp only[h];rfl
theorem readT_good{s:ByteArray}{nm:List UInt8}{ts:List Ti}(h:readT s= .good nm ts):checkR nm ts=(0,0):=by
 unfold readT at h;cases hp:Jdw s with
 | bad e a=>rw[hp] at h;cases h
 | good nm' ts'=>
   rw[hp] at h;simp only at h;split at h
   · next hz=>cases h;exact Jhj hz
   · cases h
theorem printP_any(nm:ByteArray)(A:Option Addr)(n c:Nat)(ts:List Ti)(w:World)(hck:checkR nm.toList ts=(0,0))(h:Tis w A n ts)(hc:n<=c)(htab:Lib.TabIs Tryz.prog w "internal/strconv.uint64pow10" .u64 Lib.pow10Tab):
  Cs 328 #[polV nm A n c] w (RB w (.tuple #[.string ⟨(printL nm.toList ts).toArray⟩,(0:Int)])):=by
 have y:nm.size<=maxLen:=by
  have z:=(check_fine hck).1;unfold Jae at z;simp only[qb1,qbc] at z;rw[<- Jac];unfold maxLen;omega
 have X:=Jzv nm A n c ts w y h hc htab;rw[hck,show Jqn nm.toList ts=printL nm.toList ts from by unfold Jqn;rw[hck,qa0 rfl]] at X;exact X
