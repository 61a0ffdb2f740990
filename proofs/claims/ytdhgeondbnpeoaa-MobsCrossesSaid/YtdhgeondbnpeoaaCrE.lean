/- The theorem of MobsCrosses, proved; part 5 of 7: its texts, merged. -/
import Derived.Test.YtdhgeondbnpeoaaCrD
set_option linter.unnecessarySimpa false
set_option linter.defProp false
set_option linter.unusedVariables false
set_option linter.unusedSimpArgs false
set_option maxRecDepth 100000
set_option maxHeartbeats 8000000
namespace Go.Proofs.Ytdhgeondbnpeoaa.Ext
open Go.RowKit Go.Proofs.Yw.Wd Go.Proofs.Yw.La Go.Proofs.Yw.Mo
attribute [local go_sem] y13 y11 y18 y17 y0t y0s y12 y10
def y5k (x y:Int) (out:List Int):List Int:=out.map fun z=>if z=x then y else z
def y1r (x y:Int) (out:List Int) (j:Nat):List Int:=y5k x y (out.take j) ++ out.drop j
def y4l (b:List Int) (i k:Nat) (out:List Int):List Int:=if b.getD i 0≠b.getD k 0∨out.getD i 0=out.getD k 0 then out else y5k (out.getD i 0) (out.getD k 0) out
def y56 (b:List Int) (i:Nat):Nat->List Int->List Int
 |0,o=>o
 |k+1,o=>y4l b i k (y56 b i k o)
def y2b (b:List Int):Nat->List Int->List Int
 |0,o=>o
 |i+1,o=>y56 b i i (y2b b i o)
def aboveL (a b:List Int):List Int:=numL (y2b b b.length a)
theorem y49 (x y:Int) (o:List Int):(y5k x y o).length=o.length:=by simp [y5k]
theorem ybi (x y:Int) (o:List Int) (j:Nat):(y1r x y o j).length=o.length:=by simp [y1r,y49];omega
theorem y98 (b:List Int) (i k:Nat) (o:List Int):(y4l b i k o).length=o.length:=by unfold y4l;split<;>simp [y49]
theorem y4t (b:List Int) (i:Nat):∀ (k:Nat) (o:List Int),(y56 b i k o).length=o.length
 |0,_=>rfl
 |k+1,o=>(y98 b i k _).trans (y4t b i k o)
theorem y2k (b:List Int):∀ (i:Nat) (o:List Int),(y2b b i o).length=o.length
 |0,_=>rfl
 |i+1,o=>(y4t b i i _).trans (y2k b i o)
theorem y9h (x y:Int) (o:List Int):y1r x y o 0=o:=by simp [y1r,y5k]
theorem ybj (x y:Int) (o:List Int):y1r x y o o.length=y5k x y o:=by simp [y1r]
theorem y8c (x y:Int) {o:List Int} {j:Nat} (h:j<o.length):(y1r x y o j).getD j 0=o.getD j 0:=by
 have h1:(y5k x y (o.take j)).length=j:=by rw [y49,List.length_take];omega
 unfold y1r;rw [List.getD_eq_getElem?_getD,List.getElem?_append_right (by omega),h1,Nat.sub_self,List.getElem?_drop,List.getD_eq_getElem?_getD,Nat.add_zero]
theorem y5j (x y:Int) {o:List Int} {j:Nat} (h:j<o.length):y1r x y o (j+1)=(y1r x y o j).set j (if o.getD j 0=x then y else o.getD j 0):=by
 have h1:(y5k x y (o.take j)).length=j:=by rw [y49,List.length_take];omega
 unfold y1r;rw [List.set_append,if_neg (by omega),h1,Nat.sub_self,List.drop_eq_getElem_cons h,List.set_cons_zero,List.take_succ_eq_append_getElem h];rw [List.getD_eq_getElem?_getD,List.getElem?_eq_getElem h];unfold y5k;rw [List.map_append,List.append_assoc];rfl
theorem y9i (x y:Int) {o:List Int} {j:Nat} (h:j<o.length) (hne:o.getD j 0≠x):y1r x y o (j+1)=y1r x y o j:=by
 rw [y5j x y h,if_neg hne,← y8c x y h];have hl:j<(y1r x y o j).length:=by rw [ybi];exact h
 rw [List.getD_eq_getElem?_getD,List.getElem?_eq_getElem hl,Option.getD_some,List.set_getElem_self]
theorem yiy {b:List Int} {p:Int->Prop}:∀ {i:Nat} {o:List Int},(∀ x ∈ o,p x)->p 0->∀ x ∈ y2b b i o,p x:=by
 have hg:∀ {o:List Int} (i:Nat),(∀ x ∈ o,p x)->p 0->p (o.getD i 0):=by
  intro o i h h0;rw [List.getD_eq_getElem?_getD];cases hi:o[i]? with
  |none=>exact h0
  |some v=>exact h v (List.mem_of_getElem? hi)
 have hs:∀ {i k:Nat} {o:List Int},(∀ x ∈ o,p x)->p 0->∀ x ∈ y4l b i k o,p x:=by
  intro i k o h h0 x hx;unfold y4l at hx;split at hx
  ·exact h x hx
  ·simp only [y5k,List.mem_map] at hx
   obtain ⟨z,hz,rfl⟩:=hx;split
   ·exact hg k h h0
   ·exact h z hz
 have hi:∀ {i:Nat} (k:Nat) {o:List Int},(∀ x ∈ o,p x)->p 0->∀ x ∈ y56 b i k o,p x:=by
  intro i k
  induction k with
  |zero=>intro o h _;exact h
  |succ k ih=>intro o h h0;exact hs (ih h h0) h0
 intro i
 induction i with
 |zero=>intro o h _;exact h
 |succ i ih=>intro o h h0;exact hi i (ih h h0) h0
theorem above_all (A:Option Addr) (c:Nat) (la:List Int) (B:Option Addr) (cb:Nat) (lb:List Int) (w:World) (hra:Kd.C (Kd.int .i64) w A la.length la) (hrb:Kd.C (Kd.int .i64) w B lb.length lb) (hab:la.length=lb.length) (hok:∀ x ∈ la,In64 x) (hL:la.length<17592186044416) :
  Calls Tra.prog 65 #[.slice A la.length c,.slice B lb.length cb] w fun e w'=>∃ v,e=.returned v∧OwnI w' w.heap.size v (aboveL la lb)∧Below w.heap.size w w':=by
 have HRB:=As0.mk hrb;have HL:=As0.mk hL;have HAB:=As0.mk hab;have HOK:=As0.mk (yiy (b:=lb) (i:=lb.length) hok (by unfold In64;omega));have HA:=As0.mk (clone_calls A c la w hra hL);clear hra hrb hL hab hok;go_enter Tra.func65,Tra.ntmps65
 go_wp2_with fail
 refine HA.out.mono ?_
 rintro e w1 ⟨v5,rfl,hR5,hB1⟩
 have HR1:=As0.mk hR5;have HB1:=As0.mk hB1;clear hR5 hB1 HA;go_wp2_with fail
 go_loopw [16] (fun v16 W=>∃ i:Nat,v16=.int .i64 i∧As0 (i≤lb.length)∧As0 (Kd.R (Kd.int .i64) 3 W w.heap.size (fun _=>True) v5 (y2b lb i la))∧As0 (Below w.heap.size w W)) (fun v16 _=>(lb.length - intOf v16).toNat)
 case atStart=>exact ⟨0,rfl,⟨Nat.zero_le _⟩,HR1,HB1⟩
 case round =>
  obtain ⟨i,rfl,hi,hR,hB⟩:=hrel;have hi':=hi.out;have hab:=HAB.out;have hLo:lb.length<17592186044416:=by have:=HL.out;omega
  by_cases hlt:i<lb.length
  ·obtain ⟨g,cap,hv,hbg,hgl,_⟩:=Kd.R_form hR.out (by rw [y2k];omega)
   rw [y2k,hab] at hv;subst hv;have HLEN:=As0.mk (y2k lb i la);have HI:=As0.mk hlt;clear hab;go_wp2_with fail
   go_loopw [20] (fun v20 W=>∃ k:Nat,v20=.int .i64 k∧As0 (k≤i)∧As0 (Kd.R (Kd.int .i64) 3 W w.heap.size (fun _=>True) (.slice (some ⟨g,0,none⟩) lb.length cap) (y56 lb i k (y2b lb i la)))∧As0 (Below w.heap.size w W)) (fun v20 _=>(i - intOf v20).toNat)
   case atStart=>exact ⟨0,rfl,⟨Nat.zero_le _⟩,hR,hB⟩
   case round =>
    clear hR hB;obtain ⟨k,rfl,hk,hR,hB⟩:=hrel;have hk':=hk.out
    by_cases hki:k<i
    ·have hkl:k<lb.length:=by omega
     have hln:=y4t lb i k (y2b lb i la);have hln2:=HLEN.out;have hab:=HAB.out;obtain ⟨o,ho⟩:∃ o,o=y56 lb i k (y2b lb i la):=⟨_,rfl⟩
     rw [← ho] at hR hln;have HOE:=As0.mk ho;clear ho;obtain ⟨hci,hfi⟩:=Kd.R_celln 0 hR.out (i:Int) (by omega) (by omega);obtain ⟨hck,hfk⟩:=Kd.R_celln 0 hR.out (k:Int) (by omega) (by omega);obtain ⟨bd,rfl,hbi⟩:=Kd.at_int (Kd.C_below HRB.out hB.out) (i:Int) (by omega) (by omega);obtain ⟨bd',hbe,hbk⟩:=Kd.at_int (Kd.C_below HRB.out hB.out) (k:Int) (by omega) (by omega);injection hbe with hbe
     subst hbe;simp only [Int.toNat_natCast,rdOf,rd] at hci hck hbi hbk;obtain ⟨oi,hoi⟩:∃ x,x=o.getD i 0:=⟨_,rfl⟩
     obtain ⟨ok,hok⟩:∃ x,x=o.getD k 0:=⟨_,rfl⟩
     obtain ⟨bi,hbi'⟩:∃ x,x=lb.getD i 0:=⟨_,rfl⟩
     obtain ⟨bk,hbk'⟩:∃ x,x=lb.getD k 0:=⟨_,rfl⟩
     replace hci:wr.cell? ⟨g,i,none⟩=some (.int .i64 oi):=by rw [hoi];exact hci
     replace hck:wr.cell? ⟨g,k,none⟩=some (.int .i64 ok):=by rw [hok];exact hck
     rw [← hbi'] at hbi;rw [← hbk'] at hbk;have HST:=As0.mk (show y56 lb i (k+1) (y2b lb i la)=if bi≠bk∨oi=ok then o else y5k oi ok o from by rw [hbi',hbk',hoi,hok,HOE.out];rfl);have HOI:=As0.mk hoi;have HOK2:=As0.mk hok;have HLN:=As0.mk (hln.trans hln2);clear hoi hok hbi' hbk' hfi hfk hln hln2
     by_cases hbb:bi=bk
     ·by_cases hoo:oi=ok
      ·subst hbb hoo
       have HST2:=As0.mk (HST.out.trans (if_pos (.inr rfl)));clear HST;go_wp2_with fail
       go_quiet (fail)
       go_wp2_with fail
       go_roundw
       case rel=>exact ⟨k+1,by go_num,⟨by omega⟩,⟨by rw [HST2.out];exact Kd.R_drewN hR.out _⟩,⟨y00 hB.out _⟩⟩
       case measure=>simp [intOf];omega
      ·subst hbb
       have HST2:=As0.mk (HST.out.trans (if_neg (by rintro (h|h);exact h rfl;exact hoo h)));have hoo1:(oi == ok)=false:=beq_eq_false_iff_ne.mpr hoo;clear HST;go_wp2_with fail
       go_quiet (fail)
       have HRq:=As0.mk (Kd.R_drewN hR.out nq);have HBq:=As0.mk (y00 hB.out nq);go_wp2_with fail
       go_quiet (fail)
       have HR0:=As0.mk (show Kd.R (Kd.int .i64) 3 _ w.heap.size (fun _=>True) (.slice (some ⟨g,0,none⟩) lb.length cap) (y1r oi ok o 0) from by rw [y9h];exact Kd.R_drewN HRq.out nq);have HB0:=As0.mk (y00 HBq.out nq);clear hci hck hbi hbk hR hB HRq HBq;go_wp2_with fail
       go_loopw [53] (fun v53 W=>∃ j:Nat,v53=.int .i64 j∧As0 (j≤lb.length)∧As0 (Kd.R (Kd.int .i64) 3 W w.heap.size (fun _=>True) (.slice (some ⟨g,0,none⟩) lb.length cap) (y1r oi ok o j))∧As0 (Below w.heap.size w W)) (fun v53 _=>(lb.length - intOf v53).toNat)
       case atStart=>exact ⟨0,rfl,⟨Nat.zero_le _⟩,⟨by first|exact HR0.out|(have h:=HR0.out;rwa [World.drewN_drewN] at h)⟩,⟨by first|exact HB0.out|(have h:=HB0.out;rwa [World.drewN_drewN] at h)⟩⟩
       case round =>
        clear HR0 HB0;obtain ⟨j,rfl,hj,hR,hB⟩:=hrel;have hj':=hj.out
        by_cases hjl:j<lb.length
        ·have hol:j<o.length:=by have:=HLN.out;have:=HAB.out;omega
         obtain ⟨hcj,hfj⟩:=Kd.R_celln 0 hR.out (j:Int) (by omega) (by omega);simp only [Int.toNat_natCast] at hcj hfj;obtain ⟨oj,hoj⟩:∃ x,x=o.getD j 0:=⟨_,rfl⟩
         replace hcj:wr.cell? ⟨g,j,none⟩=some (.int .i64 oj):=by rw [hoj,← y8c oi ok hol];exact hcj
         by_cases hjo:oj=oi
         ·have HP:=Kd.R_putn hR.out (j:Int) ok
          rw [Int.toNat_natCast,show (y1r oi ok o j).set j ok=y1r oi ok o (j+1) from by rw [y5j oi ok hol,← hoj,if_pos hjo]] at HP;have HP2:=As0.mk HP;have HB2:=As0.mk (hB.out.setCell (p:=⟨g,j,none⟩) hbg (.int .i64 ok));subst hjo;clear HP hoj hol;go_wp2_with fail
          go_roundw
          case rel=>exact ⟨j+1,by go_num,⟨by omega⟩,HP2,HB2⟩
          case measure=>simp [intOf];omega
         ·have HP2:=As0.mk (show Kd.R (Kd.int .i64) 3 wr w.heap.size (fun _=>True) (.slice (some ⟨g,0,none⟩) lb.length cap) (y1r oi ok o (j+1)) from by rw [y9i oi ok hol (by rw [← hoj];exact hjo)];exact hR.out)
          have hjo1:(oj == oi)=false:=beq_eq_false_iff_ne.mpr hjo;clear hoj hol;go_wp2_with fail
          go_roundw
          case rel=>exact ⟨j+1,by go_num,⟨by omega⟩,HP2,hB⟩
          case measure=>simp [intOf];omega
        ·have hje:j=lb.length:=by omega
         have HRn:=As0.mk (show Kd.R (Kd.int .i64) 3 wr w.heap.size (fun _=>True) (.slice (some ⟨g,0,none⟩) lb.length cap) (y56 lb i (k+1) (y2b lb i la)) from by
          rw [HST2.out,← ybj,HLN.out,HAB.out];have h:=hR.out;rw [hje] at h;exact h)
         clear hje;go_wp2_with fail
         go_roundw
         case rel=>exact ⟨k+1,by go_num,⟨by omega⟩,HRn,hB⟩
         case measure=>simp [intOf];omega
     ·have HST2:=As0.mk (HST.out.trans (if_pos (.inl hbb)))
      have hbb1:(bi == bk)=false:=beq_eq_false_iff_ne.mpr hbb;have hbb2:(bi != bk)=true:=bne_iff_ne.mpr hbb;clear HST;go_wp2_with fail
      go_quiet (fail)
      go_wp2_with fail
      go_roundw
      case rel=>exact ⟨k+1,by go_num,⟨by omega⟩,⟨by rw [HST2.out];exact Kd.R_drewN hR.out _⟩,⟨y00 hB.out _⟩⟩
      case measure=>simp [intOf];omega
    ·have hke:k=i:=by omega
     have HRn:=As0.mk (show Kd.R (Kd.int .i64) 3 wr w.heap.size (fun _=>True) (.slice (some ⟨g,0,none⟩) lb.length cap) (y2b lb (i+1) la) from by have:=hR.out;rw [hke] at this;exact this);clear hke;go_wp2_with fail
     have hii:=HI.out
     go_roundw
     case rel=>exact ⟨i+1,by go_num,⟨by have:=HI.out;omega⟩,HRn,hB⟩
     case measure=>have:=HI.out;simp [intOf];omega
  ·have hke:i=lb.length:=by omega
   have HR:=As0.mk (show Kd.R (Kd.int .i64) 3 wr w.heap.size (fun _=>True) v5 (y2b lb lb.length la) from hke ▸ hR.out);clear hke;obtain ⟨Ao,co,rfl,hco,hC⟩:=Kd.R_reads HR.out;have HN:=As0.mk (num_all Ao co _ wr hC HOK.out (by rw [y2k];exact HL.out));clear hC;go_wp2_with fail
   refine HN.out.mono ?_
   rintro e w2 ⟨v,rfl,hO,hb⟩
   have HO:=As0.mk (hO.lower hB.out.size);have HB2:=As0.mk (y07 hB.out hb);clear hO hb HN;go_wp2_with fail
   go_ret
   exact ⟨_,rfl,HO.out,HB2.out⟩
end Go.Proofs.Ytdhgeondbnpeoaa.Ext
namespace Go.Proofs.Ytdhgeondbnpeoaa.Ca
open Go.RowKit Go.Mt Go.Proofs.Ytdhgeondbnpeoaa.P Go.Proofs.Yw.Wd Go.Proofs.Yw.La Go.Proofs.Yw.Mo
theorem y9c {w:World} {b:Nat} {xs:List Int} (h:IntBlk w b xs) (hn:xs.length≤9223372036854775807):Kd.C (Kd.int .i64) w (some ⟨b,0,none⟩) xs.length xs:=by
 obtain ⟨cs,fr,h1,h2,h3⟩:=h;refine Kd.C_of_reads (d:=(0:Int)) (h1:=fun _=>rfl) ⟨rfl,hn,fun _=>⟨_,rfl,fun j hj=>?_⟩⟩;rw [y1v,cell_of_row w b j cs 3 fr h1];refine h3 j _ ?_;rw [List.getD_eq_getElem?_getD,List.getElem?_eq_getElem hj];rfl
theorem blk_V {w:World} {b c e N:Nat} {xs:List Int} (h:IntBlk w b xs) (hn:xs.length≤9223372036854775807) (hc:xs.length≤c):Kd.V (Kd.int .i64) e w N (fun _=>True) (.slice (some ⟨b,0,none⟩) xs.length c) xs :=
 Kd.V_mk hc fun W' hW=>y9c (h.of_get (hW b trivial h.lt)) hn
theorem y9s {w:World} {N:Nat} {v:Value} {xs:List Int} (h:Ext.OwnI w N v xs) (hx:0<xs.length):ResI N w v xs:=by
 obtain ⟨⟨h1,h2⟩,h3⟩:=h;rcases h2 with ⟨_,h0⟩|⟨g,cap,cur,rfl,hb,hg,hn,hm,hs,ht⟩
 ·omega
 ·refine ⟨g,cap,rfl,hb,cur,(0,0),hg,fun c hc=>?_,fun i x hi=>?_⟩
  ·obtain ⟨y,rfl⟩:=h3 g cur _ rfl hg c hc
   rfl
  ·have hlt:i<xs.length:=(List.getElem?_eq_some_iff.1 hi).1
   have e:(nums IntKind.i64 xs)[i]?=some (Value.int .i64 x):=by simp [nums,hi]
   rw [← ht,List.getElem?_take,if_pos (by omega)] at e;simpa using e
theorem same_l (xs:List Int) (hn:xs.length≤4):∀ (n k i:Nat),n=xs.length - i->n<k->w6_same.l0 k xs xs (i:Int)=some true
 |n,0,i,_,h=>absurd h (by omega)
 |n,k+1,i,h,hk=>by
  unfold w6_same.l0
  by_cases hi:(i:Int)<(xs.length:Int)
  ·rw [if_pos hi,if_pos (by omega),if_pos hi,if_pos rfl,show wrap64 ((i:Int)+1)=((i+1:Nat):Int) by unfold wrap64;omega]
   exact same_l xs hn (n - 1) k (i+1) (by omega) (by omega)
  ·rw [if_neg hi]
theorem ycs (xs:List Int) (hn:xs.length≤4):w6_same.f 60 xs xs=some true:=by
 unfold w6_same.f;rw [if_pos rfl];exact same_l xs hn _ 60 0 rfl (by omega)
theorem two_C {u:World} {b b1 b2:Nat} {xs ys:List Int} (h1:IntBlk u b1 xs) (h2:IntBlk u b2 ys) (hx:xs.length=4) (hy:ys.length=4) (hb:u.heap[b]?=some (.cells #[.slice (some ⟨b1,0,none⟩) 4 4,.slice (some ⟨b2,0,none⟩) 4 4] 29 (0,2))):Kd.C (Kd.slice 3 (Kd.int .i64)) u (some ⟨b,0,none⟩) 2 [xs,ys]:=by
 refine ⟨rfl,by decide,fun _=>⟨_,rfl,fun j p hj=>?_⟩⟩;have e:(Kd.slice 3 (Kd.int .i64)).sz=1:=rfl;have key:∀ (c:Nat) (zs:List Int) (j:Nat),IntBlk u c zs->zs.length=4->(#[Value.slice (some ⟨b1,0,none⟩) 4 4,.slice (some ⟨b2,0,none⟩) 4 4]:Array Value)[j]?=some (.slice (some ⟨c,0,none⟩) 4 4)->∃ c,c.length=1∧(Kd.slice 3 (Kd.int .i64)).K u zs c∧∀ i v,c[i]?=some v->u.cell? ((⟨b,0,none⟩:Addr).add (j * 1+i))=some v:=by
  intro c zs j hc hz hj;refine ⟨[.slice (some ⟨c,0,none⟩) 4 4],rfl,⟨some ⟨c,0,none⟩,4,by rw [hz],by omega,y9c hc (by omega)⟩,fun i v hi=>?_⟩;have hi0:i=0:=by
   have:=(List.getElem?_eq_some_iff.1 hi).1;simp at this;omega
  subst hi0;rw [y1v,cell_of_row u b _ _ 29 _ hb,Nat.mul_one,Nat.add_zero,hj];simpa using hi
 rcases j with _|_|j
 ·injection hj with hj
  subst hj;exact key b1 _ 0 h1 hx rfl
 ·have hj':ys=p:=by simpa using hj
  subst hj';exact key b2 _ 1 h2 hy rfl
 ·simp at hj
theorem alK:AlK Tra.prog where
 c36 u b h:=(mobs_Rank.calls 60 (fun _=>True) (some ⟨b,0,none⟩) 3 [0,1,1] 3 0 u (blk_V h (by decide) (by decide)) (by decide +kernel)).mono fun e w' hp=>hp.1
 c25 u b h:=(mobs_Between.flat 60 (fun _=>True) (some ⟨b,0,none⟩) 3 [0,0,1] [0,1,1] 0 u (blk_V h (by decide) (by decide)) (by decide +kernel)).mono fun e w' ⟨v,he,hO,_⟩=>⟨v,he,y9s hO (by decide)⟩
 c16 u:=(mobs_Count.calls 60 4 2 7 0 u (by decide +kernel)).mono fun e w' hp=>hp.1
 c18 u:=(mobs_Plain.calls 60 4 2 6 0 u (by decide +kernel)).mono fun e w' hp=>hp.1
 c23 u b h:=(mobs_Crossed.calls 60 (fun _=>True) (some ⟨b,0,none⟩) 4 [0,1,0,1] 0 1 2 3 true 0 u (blk_V h (by decide) (by decide)) (by decide +kernel)).mono fun e w' hp=>hp.1
 c27 u b1 b2 c1 c2 xs h1 h2 hn:=(w6_same.nocap 60 (some ⟨b1,0,none⟩) c1 xs (some ⟨b2,0,none⟩) c2 xs true u (y9c h1 (by omega)) (y9c h2 (by omega)) (ycs xs hn)).mono fun e w' hp=>hp.1
 c49 u b b1 b2 h1 h2 hb:=(mobs_read.calls 60 (some ⟨b,0,none⟩) 2 [[0,0,1,1],[0,1,1,0]] 0 u (two_C h1 h2 rfl rfl hb) (by decide) (by decide +kernel)).mono fun e w' hp=>hp.1
 c63 u b1 b2 h1 h2:=(mobs_below.flat 60 (some ⟨b1,0,none⟩) 4 [0,0,1,1] (some ⟨b2,0,none⟩) 4 [0,1,1,0] [0,1,2,3] u (y9c h1 (by decide)) (by decide) (y9c h2 (by decide)) (by decide) (by decide +kernel)).mono fun e w' ⟨v,he,hO,_⟩=>⟨v,he,y9s hO (by decide)⟩
 c65 u b1 b2 h1 h2:=by
  refine (Ext.above_all (some ⟨b1,0,none⟩) 4 [0,0,1,1] (some ⟨b2,0,none⟩) 4 [0,1,1,0] u (y9c h1 (by decide)) (y9c h2 (by decide)) rfl (by decide) (by decide)).mono fun e w' ⟨v,he,hO,_⟩=>⟨v,he,?_⟩
  have e1:Ext.aboveL [0,0,1,1] [0,1,1,0]=[0,0,0,0]:=by decide +kernel
  rw [e1] at hO;exact y9s hO (by decide)
end Go.Proofs.Ytdhgeondbnpeoaa.Ca
namespace Go.Proofs.Ytdhgeondbnpeoaa.Ca
open Go.RowKit Go.Mt Go.Tr Go.Conc Go.ConcN
section
theorem yjj {W w:World} (h:Kept W.heap.size W w):Below W.heap.size W w:=⟨h.os,h.tape,h.output,h.size,h.old⟩
end
section
structure SlD where
 a:Option Addr
 len:Nat
 cap:Nat
 zs:List Int
def SlD.val (d:SlD):Value:=.slice d.a d.len d.cap
def SlD.ok (W:World) (d:SlD):Prop :=
 (d.a=none∧d.len=0∧d.cap=0∧d.zs=[])∨∃ x,d.a=some x∧x.spot=none∧(∃ cs e fr,W.heap[x.block]?=some (.cells cs e fr))∧d.len≤d.cap∧d.cap≤maxLen∧d.zs.length=d.cap ∧
  (∀ i,i<d.zs.length->W.cell? (x.add i)=some (.int .i64 (d.zs.getD i 0)))∧∀ n ∈ d.zs,(Lit.int .i64 n).wf=true
def SlD.ints (d:SlD):Array Value:=(d.zs.map (Value.int .i64)).toArray
def lone (N:Nat):Nat->List SlD->List SlD
 |_,[]=>[]
 |j,d :: ds=>match d.a with
  |none=>d :: lone N j ds
  |some _=>{ d with a:=some ⟨N+j,0,none⟩ } :: lone N (j+1) ds
def als:List SlD->List (Nat × Nat)
 |[]=>[]
 |d :: ds=>match d.a with
  |none=>als ds
  |some x=>(x.block,x.off) :: als ds
def blks:List SlD->List Obj
 |[]=>[]
 |d :: ds=>match d.a with
  |none=>blks ds
  |some _=>.cells d.ints 3 (0,d.ints.size) :: blks ds
theorem yb8:∀ ds:List SlD,(blks ds).length=(als ds).length
 |[]=>rfl
 |d :: ds=>by
  unfold blks als;cases d.a<;>simp [yb8 ds]
theorem y7z (N:Nat):∀ (j:Nat) (ds:List SlD),(lone N j ds).length=ds.length
 |_,[]=>rfl
 |j,d :: ds=>by
  unfold lone;cases d.a<;>simp [y7z]
theorem ya5 (N:Nat):∀ (ds:List SlD) (j k:Nat) (d d':SlD),ds[k]?=some d->(lone N j ds)[k]?=some d' →
  d'.len=d.len∧d'.cap=d.cap∧d'.zs=d.zs∧((d.a=none∧d'.a=none)∨∃ x i,d.a=some x∧d'.a=some ⟨N+(j+i),0,none⟩∧(als ds)[i]?=some (x.block,x.off)∧(blks ds)[i]?=some (.cells d.ints 3 (0,d.ints.size)))
 |[],j,k,d,d',h,_=>by simp at h
 |c :: ds,j,k,d,d',h,h'=>by
  unfold lone at h';unfold als blks;cases hc:c.a with
  |none =>
   rw [hc] at h';simp only at h' ⊢;cases k with
   |zero =>
    simp only [List.getElem?_cons_zero,Option.some.injEq] at h h';subst h h';exact ⟨rfl,rfl,rfl,.inl ⟨hc,hc⟩⟩
   |succ k =>
    simp only [List.getElem?_cons_succ] at h h';exact ya5 N ds j k d d' h h'
  |some x =>
   rw [hc] at h';simp only at h' ⊢;cases k with
   |zero =>
    simp only [List.getElem?_cons_zero,Option.some.injEq] at h h';subst h h';exact ⟨rfl,rfl,rfl,.inr ⟨x,0,hc,rfl,rfl,rfl⟩⟩
   |succ k =>
    simp only [List.getElem?_cons_succ] at h h';obtain ⟨h1,h2,h3,h4⟩:=ya5 N ds (j+1) k d d' h h';refine ⟨h1,h2,h3,h4.imp id ?_⟩
    rintro ⟨y,i,e1,e2,e3,e4⟩
    exact ⟨y,i+1,e1,by rw [e2];congr 2;omega,by simpa using e3,by simpa using e4⟩
theorem yb9:∀ (ds:List SlD) (i b s:Nat),(als ds)[i]?=some (b,s)->∃ d x,d ∈ ds∧d.a=some x∧x.block=b∧x.off=s∧(blks ds)[i]?=some (.cells d.ints 3 (0,d.ints.size))
 |[],i,b,s,h=>by simp [als] at h
 |c :: ds,i,b,s,h=>by
  unfold als at h;unfold blks;cases hc:c.a with
  |none =>
   rw [hc] at h;obtain ⟨d,x,h1,h2⟩:=yb9 ds i b s h;exact ⟨d,x,List.mem_cons_of_mem _ h1,h2⟩
  |some y =>
   rw [hc] at h;simp only at h;cases i with
   |zero =>
    simp only [List.getElem?_cons_zero,Option.some.injEq,Prod.mk.injEq] at h;exact ⟨c,y,List.mem_cons_self,hc,h.1,h.2,rfl⟩
   |succ i =>
    simp only [List.getElem?_cons_succ] at h;obtain ⟨d,x,h1,h2,h3,h4,h5⟩:=yb9 ds i b s h;exact ⟨d,x,List.mem_cons_of_mem _ h1,h2,h3,h4,by simpa using h5⟩
def ya6 (W:World) (ds:List SlD):World:={ W with heap:=Array.replicate W.heap.size (.map #[] 0) ++ (blks ds).toArray }
def KA (W:World) (ds:List SlD):Cfg:=⟨W.heap.size,fun _=>False,fun _=>False,als ds⟩
theorem y96 (W:World) (ds:List SlD) (j:Nat):(ya6 W ds).heap[W.heap.size+j]?=(blks ds)[j]?:=by
 unfold ya6;simp only;rw [Array.getElem?_append_right (by simp)];simp
theorem yiz {W:World} {ds:List SlD} (hok:∀ d ∈ ds,d.ok W):WRel (KA W ds) ((als ds).map Prod.fst) (ya6 W ds) W:=by
 have hlt:∀ (j b s:Nat),(als ds)[j]?=some (b,s)->b<W.heap.size:=by
  intro j b s hj;obtain ⟨d,x,h1,h2,h3,_⟩:=yb9 ds j b s hj;rcases hok d h1 with ⟨h4,_⟩|⟨y,h4,_,⟨cs,e,fr,h5⟩,_⟩
  ·rw [h2] at h4;cases h4
  ·obtain rfl:=zSi (h2.symm.trans h4)
   rw [← h3];exact (zGe h5).1
 have hL:∀ (j b:Nat),((als ds).map Prod.fst)[j]?=some b->b<W.heap.size:=by
  intro j b hj;rw [List.getElem?_map] at hj;obtain ⟨⟨b',s⟩,h1,h2⟩:=Option.map_eq_some_iff.1 hj;subst h2;exact hlt j b' s h1
 refine ⟨?_,zLe _,rfl,rfl,hL,fun j b hj hn=>?_,fun i j b hi hj hn=>?_,fun b hb=>hb.elim,fun b hb=>hb.elim,fun j b s hj=>?_⟩
 ·show (Array.replicate W.heap.size _ ++ (blks ds).toArray).size=_
  simp [KA,yb8]
 ·have:=hL j b hj
  exact absurd hn (Nat.not_le_of_lt this)
 ·have:=hL i b hi
  exact absurd hn (Nat.not_le_of_lt this)
 ·replace hj:(als ds)[j]?=some (b,s):=hj
  obtain ⟨d,x,h1,h2,h3,h4,h5⟩:=yb9 ds j b s hj;rcases hok d h1 with ⟨h6,_⟩|⟨y,h6,hsp,⟨cs,e,fr,h7⟩,_,_,hzl,hcell,_⟩
  ·rw [h2] at h6;cases h6
  ·obtain rfl:=zSi (h2.symm.trans h6)
   subst h3 h4;refine ⟨(zGe h7).1,fun h=>h,⟨x.block,by rw [List.getElem?_map,hj];rfl,(zGe h7).1⟩,d.ints,cs,3,e,fr,?_,h7,fun i v hv=>?_⟩
   ·show (ya6 W ds).heap[W.heap.size+j]?=_
    rw [y96,h5]
   ·have hi:i<d.zs.length:=by
     have:=(zGe hv).1;simpa [SlD.ints] using this
    have e1:v=.int .i64 (d.zs.getD i 0):=by
     have:d.ints[i]?=some (.int .i64 (d.zs.getD i 0)):=by simp [SlD.ints,List.getElem?_eq_getElem hi,List.getD_eq_getElem?_getD]
     exact zSi (hv.symm.trans this)
    have e2:=hcell i hi;obtain ⟨xb,xo,xs⟩:=x;simp only at hsp h7;subst hsp;have e3:(⟨xb,xo,none⟩:Addr).add i=⟨xb,xo+i,none⟩:=by unfold Addr.add;split<;>simp_all
    rw [e3,cell_of_row W xb (xo+i) cs e fr h7] at e2;exact ⟨v,by rw [Nat.add_comm,e2,e1],by rw [e1];exact .flat rfl⟩
theorem yb6 {W:World} {ds:List SlD} (hok:∀ d ∈ ds,d.ok W) {k:Nat} {d d':SlD} (h:ds[k]?=some d) (h':(lone W.heap.size 0 ds)[k]?=some d') :
  d'.len=d.len∧d'.cap=d.cap∧d'.zs=d.zs∧RelC (KA W ds) ((als ds).map Prod.fst) d'.val d.val∧∀ u:World,u.heap=(ya6 W ds).heap->d'.ok u:=by
 obtain ⟨h1,h2,h3,h4⟩:=ya5 W.heap.size ds 0 k d d' h h';refine ⟨h1,h2,h3,?_,fun u hu=>?_⟩
 ·rcases h4 with ⟨e1,e2⟩|⟨x,i,e1,e2,e3,_⟩
  ·unfold SlD.val
   rw [e1,e2,h1,h2];exact .flat rfl
  ·unfold SlD.val
   rw [e1,e2,h1,h2];have hsp:x.spot=none:=by
    rcases hok d (List.mem_of_getElem? h) with ⟨h6,_⟩|⟨y,h6,hsp,_⟩
    ·rw [e1] at h6;cases h6
    ·obtain rfl:=zSi (e1.symm.trans h6)
     exact hsp
   exact .slice (s:=x.off) (.inr ⟨i,by simp [KA],e3⟩) (by simp) (by simp [hsp])
 ·rcases hok d (List.mem_of_getElem? h) with ⟨g1,g2,g3,g4⟩|⟨y,g1,_,_,g2,g3,g4,g5,g6⟩
  ·rcases h4 with ⟨e1,e2⟩|⟨x,i,e1,_⟩
   ·exact .inl ⟨e2,by rw [h1,g2],by rw [h2,g3],by rw [h3,g4]⟩
   ·rw [g1] at e1;cases e1
  ·rcases h4 with ⟨e1,e2⟩|⟨x,i,e1,e2,_,e4⟩
   ·rw [g1] at e1;cases e1
   ·have hb:u.heap[W.heap.size+(0+i)]?=some (.cells d.ints 3 (0,d.ints.size)):=by rw [hu,Nat.zero_add,y96,e4]
    refine .inr ⟨_,e2,rfl,⟨_,_,_,hb⟩,by rw [h1,h2];exact g2,by rw [h2];exact g3,by rw [h2,h3];exact g4,fun j hj=>?_,by rw [h3];exact g6⟩;rw [h3] at hj ⊢;have e3:(⟨W.heap.size+(0+i),0,none⟩:Addr).add j=⟨W.heap.size+(0+i),j,none⟩:=by unfold Addr.add;split<;>simp_all
    rw [e3,cell_of_row u _ j d.ints 3 _ hb];simp [SlD.ints,List.getElem?_eq_getElem hj,List.getD_eq_getElem?_getD]
theorem relPs_nil (K:Cfg) (L:List Nat):RelPs K L #[] #[]:=⟨rfl,fun i v v' h=>by simp at h⟩
theorem relPs_push {K:Cfg} {L:List Nat} {cs cs':Array Value} (h:RelPs K L cs cs') {v v':Value} (hv:RelC K L v v'):RelPs K L (cs.push v) (cs'.push v'):=by
 refine ⟨by simp [h.1],fun i a b ha hb=>?_⟩;rw [Array.getElem?_push] at ha hb
 by_cases hi:i=cs.size
 ·rw [if_pos hi] at ha
  rw [if_pos (by rw [h.1];exact hi)] at hb;obtain rfl:=zSi ha;obtain rfl:=zSi hb;exact .cell hv
 ·rw [if_neg hi] at ha
  rw [if_neg (by rw [h.1];exact hi)] at hb;exact h.2 i a b ha hb
theorem law_runS {f:FuncId} {fn:Func} {W:World} (ds:List SlD) (hok:∀ d ∈ ds,d.ok W) (mk:List SlD->Array Value) (hi:Try.prog.inits.idxOf? f=none) (hf:Tra.prog.funcs[f]?=some fn) (hS:S1 f=true) (hT:T1 f=true) (hres:y5i fn=true)
  (hmk:∀ (K:Cfg) (L:List Nat) (ds':List SlD),ds'.length=ds.length->(∀ (k:Nat) (d d':SlD),ds[k]?=some d->ds'[k]?=some d'->RelC K L d'.val d.val)->RelPs K L (mk ds') (mk ds))
  (hc:∀ (u:World) (ds':List SlD),ds'.length=ds.length->(∀ (k:Nat) (d d':SlD),ds[k]?=some d->ds'[k]?=some d'->d'.len=d.len∧d'.cap=d.cap∧d'.zs=d.zs∧d'.ok u)->Calls Tra.prog f (mk ds') u fun e _=>e=.returned (.bool true)) :
  ∃ M last o w' t',runNT Try.prog (M+1) (solo (G (Frame.enter Try.prog f (mk ds) .normal) []) W) #[]=(.ended o w',t')∧runN Try.prog M (solo (G (Frame.enter Try.prog f (mk ds) .normal) []) W)=.next last∧step Try.prog last=.ended o w' ∧
   Go.Conc.Good Try.prog (fun v' w'=>v'=.bool true∧Below W.heap.size W w') last o w' t':=by
 obtain ⟨M,last,o,w',t',h1,h2,h3,v',e0,⟨L,v,u,hv,_,hk,rfl⟩,r0⟩:=hyb_run (Rd:=fun _=>False) (al:=als ds) (L0:=(als ds).map Prod.fst) (W:=W) (u0:=ya6 W ds) (args:=mk (lone W.heap.size 0 ds)) (args':=mk ds) Tra.same Tra.calm1 Tra.calmT
  (y7e Tra.duo Tra.calm1 alK Tra.als res23 Tra.stand Tra.t20 (fun b h=>h.elim)) hi hf hS hT hres
  (hmk _ _ _ (y7z _ _ _) fun k d d' hd hd'=>(yb6 hok hd hd').2.2.2.1) (yiz hok) (Post:=fun v _=>v=.bool true) (fun _ _ _ h=>h)
  (fun τ=>(hc (retape (ya6 W ds) τ) (lone W.heap.size 0 ds) (y7z _ _ _) fun k d d' hd hd'=>let ⟨q1,q2,q3,_,q5⟩:=yb6 hok hd hd';⟨q1,q2,q3,q5 _ rfl⟩).mono fun e _ h=>⟨_,h,rfl⟩)
 refine ⟨M,last,o,w',t',h1,h2,h3,v',e0,⟨?_,yjj hk⟩,r0⟩;split at hv
 ·exact y4h hv rfl
 ·exact y8r hv rfl
theorem SlD.row {u:World} {d:SlD} (h:d.ok u):(d.a=none∧d.len=0∧d.cap=0∧d.zs=[])∨∃ x,d.a=some x∧d.len≤d.cap∧d.cap≤maxLen∧d.zs.length=d.cap∧(∀ i,i<d.zs.length->u.cell? (x.add i)=some (.int .i64 (d.zs.getD i 0)))∧∀ n ∈ d.zs,(Lit.int .i64 n).wf=true:=by
 rcases h with h|⟨x,h1,_,_,h2⟩
 ·exact .inl h
 ·exact .inr ⟨x,h1,h2⟩
theorem has_of {P:Program} {W:World} {base:Nat} {t e:TypeId} {x:Addr} {len cap:Nat} (hu:P.underlying t=some (.slice e)) (hv:Value.okWide P W .any base t (.slice (some x) len cap)):W.has P .any base x e cap:=by
 simp only [Value.okWide,hu,Cell.okWide,Cell.ok] at hv;exact hv.2.2
theorem sl_ok {W:World} {base:Nat} {a:Option Addr} {len cap:Nat} {zs:List Int} (hv:Value.okWide Try.prog W .any base 29 (.slice a len cap))
  (hr:(a=none∧len=0∧cap=0∧zs=[])∨∃ x,a=some x∧len≤cap∧cap≤maxLen∧zs.length=cap∧(∀ i,i<zs.length->W.cell? (x.add i)=some (.int .i64 (zs.getD i 0)))∧∀ n ∈ zs,(Lit.int .i64 n).wf=true):(⟨a,len,cap,zs⟩:SlD).ok W:=by
 rcases hr with hr|⟨x,rfl,h2⟩
 ·exact .inl hr
 ·obtain ⟨_,hsp,row,cells,hs,_⟩:=has_of Try.underlying29 hv
  refine .inr ⟨x,rfl,hsp,?_,h2⟩;unfold World.shape? at hs;cases hb:W.heap[x.block]? with
  |none=>rw [hb] at hs;simp at hs
  |some o =>
   rw [hb] at hs;cases o with
   |cells cs e fr=>exact ⟨cs,e,fr,rfl⟩
   |_=>simp at hs
end
end Go.Proofs.Ytdhgeondbnpeoaa.Ca
namespace Go.Proofs.Ytdhgeondbnpeoaa.P
open Go.RowKit Go.Proofs.Yw.Wd Go.Proofs.Yw.La Go.Proofs.Yw.Mo
attribute [local go_sem] y13 y11 y18 y17 y0t y0s y12 y10
theorem eqA31 (d:Nat) (w:World) (x0 y0:Int) (x1 y1:Int) (x2 y2:Int) (x3 y3:Int) :
  (Op.equalIn (d+2) 31 (.agg #[.int .i64 x0,.int .i64 x1,.int .i64 x2,.int .i64 x3]) (.agg #[.int .i64 y0,.int .i64 y1,.int .i64 y2,.int .i64 y3])).run Tra.prog w=.ok (x0 == y0 && (x1 == y1 && (x2 == y2 && (x3 == y3)))) w:=by
 rw [Op.equalIn];have p0:∀ x0 x1 x2 x3:Int,(part 3 #[.int .i64 x0,.int .i64 x1,.int .i64 x2,.int .i64 x3] 0).run Tra.prog w=.ok (.int .i64 x0) w:=fun x0 x1 x2 x3=>by go_simp
 have p1:∀ x0 x1 x2 x3:Int,(part 3 #[.int .i64 x0,.int .i64 x1,.int .i64 x2,.int .i64 x3] 1).run Tra.prog w=.ok (.int .i64 x1) w:=fun x0 x1 x2 x3=>by go_simp
 have p2:∀ x0 x1 x2 x3:Int,(part 3 #[.int .i64 x0,.int .i64 x1,.int .i64 x2,.int .i64 x3] 2).run Tra.prog w=.ok (.int .i64 x2) w:=fun x0 x1 x2 x3=>by go_simp
 have p3:∀ x0 x1 x2 x3:Int,(part 3 #[.int .i64 x0,.int .i64 x1,.int .i64 x2,.int .i64 x3] 3).run Tra.prog w=.ok (.int .i64 x3) w:=fun x0 x1 x2 x3=>by go_simp
 have q:∀ x y:Int,(Op.equalIn (d+1) 3 (.int .i64 x) (.int .i64 y)).run Tra.prog w=.ok (x == y) w:=fun x y=>run_equalIn_int w d 3 .i64 .i64 x y Tra.underlying3
 have hl:List.range' 0 4=[0,1,2,3]:=rfl;simp only [Sem.run_bind,run_underlying Tra.underlying31,Result.andThen_ok,hl];cases h0:(x0 == y0)<;>cases h1:(x1 == y1)<;>cases h2:(x2 == y2)<;>cases h3:(x3 == y3)<;>simp [p0,p1,p2,p3,q,h0,h1,h2,h3,hl]
end Go.Proofs.Ytdhgeondbnpeoaa.P
namespace Go.Proofs.Ytdhgeondbnpeoaa.P
open Go.RowKit Go.Proofs.Yw.Wd Go.Proofs.Yw.La Go.Proofs.Yw.Mo
attribute [local go_sem] y13 y11 y18 y17 y0t y0s y12 y10
mutual
def r6_crossed.l0:Nat->List Int->Int->Option (Int × Int × Int × Int × Bool)
 |0,_,_=>none
 |k+1,x0,x4=>if x4<(x0.length:Int) then (r6_crossed.l1 k x0 x4 (wrap64 (x4+1))) else (some (0,0,0,0,false))
def r6_crossed.l1:Nat->List Int->Int->Int->Option (Int × Int × Int × Int × Bool)
 |0,_,_,_=>none
 |k+1,x0,x4,x5=>if x5<(x0.length:Int) then (r6_crossed.l2 k x0 x4 x5 (wrap64 (x5+1))) else (r6_crossed.l0 k x0 (wrap64 (x4+1)))
def r6_crossed.l2:Nat->List Int->Int->Int->Int->Option (Int × Int × Int × Int × Bool)
 |0,_,_,_,_=>none
 |k+1,x0,x4,x5,x6=>if x6<(x0.length:Int) then (r6_crossed.l3 k x0 x4 x5 x6 (wrap64 (x6+1))) else (r6_crossed.l1 k x0 x4 (wrap64 (x5+1)))
def r6_crossed.l3:Nat->List Int->Int->Int->Int->Int->Option (Int × Int × Int × Int × Bool)
 |0,_,_,_,_,_=>none
 |k+1,x0,x4,x5,x6,x7=>if x7<(x0.length:Int) then (if 0≤x4 then (if x4<(x0.length:Int) then (if 0≤x6 then (if x6<(x0.length:Int) then (if (rd x0 x4)=(rd x0 x6) then (if 0≤x5 then (if x5<(x0.length:Int) then (if 0≤x7 then (if (rd x0 x5)=(rd x0 x7) then (if (rd x0 x4)=(rd x0 x5) then (r6_crossed.l3 k x0 x4 x5 x6 (wrap64 (x7+1))) else (some (x4,x5,x6,x7,true))) else (r6_crossed.l3 k x0 x4 x5 x6 (wrap64 (x7+1)))) else (none)) else (none)) else (none)) else (r6_crossed.l3 k x0 x4 x5 x6 (wrap64 (x7+1)))) else (none)) else (none)) else (none)) else (none)) else (r6_crossed.l2 k x0 x4 x5 (wrap64 (x6+1)))
end
def r6_crossed.f (k:Nat) (l0:List Int):Option (Int × Int × Int × Int × Bool):=r6_crossed.l0 k l0 0
theorem r6_crossed.calls (k:Nat) (A0:Option Addr) (c0:Nat) (l0:List Int) (r1:Int) (r2:Int) (r3:Int) (r4:Int) (r5:Bool) (w:World) (hr0:Kd.C (Kd.int .i64) w A0 l0.length l0) (hc0:l0.length≤c0) (h:r6_crossed.f k l0=some (r1,r2,r3,r4,r5)) :
  Calls Tra.prog 52 #[.slice A0 l0.length c0] w fun e w'=>e=.returned (.tuple #[.agg #[.int .i64 r1,.int .i64 r2,.int .i64 r3,.int .i64 r4],.bool r5])∧Below w.heap.size w w':=by
 have hu31:=Tra.underlying31;have HR0:=As0.mk hr0;have HC0:=As0.mk hc0;clear hr0 hc0;have HB:=As0.mk (Below.refl w.heap.size w);have H:(r6_crossed.l0 k l0 0)=some (r1,r2,r3,r4,r5):=h;clear h;have H':=As0.mk H;clear H;go_enter Tra.func52,Tra.ntmps52
 go_wp2_with (first|((with_reducible refine y0i (N:=2) rfl ?_);refine y0q ?hg (N:=2) ?hd (cs:=#[.int .i64 0,.int .i64 0,.int .i64 0,.int .i64 0]) (t:=31) ?hr ?_;(case hd=>rfl);(case hg=>rfl);(case hr=>first|(go_simp;done)|(go_simp;rfl));intro gb382 hg w2 hbox hb;have n0_:=As0.mk (y07 (by repeat (with_reducible first|exact HB.out|apply y01|apply y00|apply y02)) hb);have n1_:=As0.mk (hbox);have n2_:=As0.mk ((by rw [hg];exact (y05 (by repeat (with_reducible first|exact HB.out|apply y01|apply y00|apply y02))):w.heap.size≤gb382));have n3_:=As0.mk ((by rw [hg];exact (y05 (by repeat (with_reducible first|exact HB.out|apply y01|apply y00|apply y02))):w.heap.size≤gb382));clear HB;have HB:=n0_;have BK382:=n1_;have GW382:=n2_;have GE382:=n3_;clear n0_ n1_ n2_ n3_;clear hb hbox hg))
 repeat (go_quiet (first|((with_reducible refine y0i (N:=2) rfl ?_);refine y0q ?hg (N:=2) ?hd (cs:=#[.int .i64 0,.int .i64 0,.int .i64 0,.int .i64 0]) (t:=31) ?hr ?_;(case hd=>rfl);(case hg=>rfl);(case hr=>first|(go_simp;done)|(go_simp;rfl));intro gb382 hg w2 hbox hb;have n0_:=As0.mk (y07 (by repeat (with_reducible first|exact HB.out|apply y01|apply y00|apply y02)) hb);have n1_:=As0.mk (hbox);have n2_:=As0.mk ((by rw [hg];exact (y05 (by repeat (with_reducible first|exact HB.out|apply y01|apply y00|apply y02))):w.heap.size≤gb382));have n3_:=As0.mk ((by rw [hg];exact (y05 (by repeat (with_reducible first|exact HB.out|apply y01|apply y00|apply y02))):w.heap.size≤gb382));clear HB;have HB:=n0_;have BK382:=n1_;have GW382:=n2_;have GE382:=n3_;clear n0_ n1_ n2_ n3_;clear hb hbox hg));try go_wp2_with (first|((with_reducible refine y0i (N:=2) rfl ?_);refine y0q ?hg (N:=2) ?hd (cs:=#[.int .i64 0,.int .i64 0,.int .i64 0,.int .i64 0]) (t:=31) ?hr ?_;(case hd=>rfl);(case hg=>rfl);(case hr=>first|(go_simp;done)|(go_simp;rfl));intro gb382 hg w2 hbox hb;have n0_:=As0.mk (y07 (by repeat (with_reducible first|exact HB.out|apply y01|apply y00|apply y02)) hb);have n1_:=As0.mk (hbox);have n2_:=As0.mk ((by rw [hg];exact (y05 (by repeat (with_reducible first|exact HB.out|apply y01|apply y00|apply y02))):w.heap.size≤gb382));have n3_:=As0.mk ((by rw [hg];exact (y05 (by repeat (with_reducible first|exact HB.out|apply y01|apply y00|apply y02))):w.heap.size≤gb382));clear HB;have HB:=n0_;have BK382:=n1_;have GW382:=n2_;have GE382:=n3_;clear n0_ n1_ n2_ n3_;clear hb hbox hg)))
 go_loopg [4] k (fun kq v4 w'=>∃ (x4_1:Int) (x383000_1:Int) (x383001_1:Int) (x383002_1:Int) (x383003_1:Int),v4=.int .i64 x4_1∧As0 (r6_crossed.l0 kq l0 x4_1=some (r1,r2,r3,r4,r5))∧As0 (kq≤k)∧As0 (w'.heap[gb382]?=some (.cells #[.int .i64 x383000_1,.int .i64 x383001_1,.int .i64 x383002_1,.int .i64 x383003_1] 31 (0,0)))∧As0 (Below w.heap.size w w'))
 case atStart=>exact ⟨(0),(0),(0),(0),(0),(by first|rfl|(simp;done)|(simp [*];done)),H',⟨zLe _⟩,⟨by (with_reducible repeat (first|refine y03 ?_ _|refine blk_drew ?_|refine blk_alloc ?_ _));exact BK382.out⟩,⟨by repeat (with_reducible first|exact HB.out|apply y01|apply y00|apply y02|refine y04 ?_ GE382.out)⟩⟩
 case round =>
  clear H'
  try clear p2
  obtain ⟨x4_1,x383000_1,x383001_1,x383002_1,x383003_1,rfl,HA,HK1,BK382,HB⟩:=hrel;cases gk with
  |zero=>exact absurd HA.out (by simp [r6_crossed.l0])
  |succ k1 =>
   have H:=HA.out;clear HA;simp only [r6_crossed.l0] at H
   by_cases c3:x4_1<(l0.length:Int)
   ·rw [if_pos c3] at H
    have c3b0:decide (x4_1<(l0.length:Int))=true:=zDt c3;clear c3;have H':=As0.mk H;clear H;go_wp2
    repeat (go_quiet (fail);try go_wp2)
    go_loopg [5] k1 (fun kq v5 w'=>∃ (x5_2:Int) (x383000_2:Int) (x383001_2:Int) (x383002_2:Int) (x383003_2:Int),v5=.int .i64 x5_2∧As0 (r6_crossed.l1 kq l0 x4_1 x5_2=some (r1,r2,r3,r4,r5))∧As0 (kq≤k1)∧As0 (w'.heap[gb382]?=some (.cells #[.int .i64 x383000_2,.int .i64 x383001_2,.int .i64 x383002_2,.int .i64 x383003_2] 31 (0,0)))∧As0 (Below w.heap.size w w'))
    case atStart=>exact ⟨(wrap64 (x4_1+1)),(x383000_1),(x383001_1),(x383002_1),(x383003_1),(by first|rfl|(simp;done)|(simp [*];done)),H',⟨zLe _⟩,⟨by (with_reducible repeat (first|refine y03 ?_ _|refine blk_drew ?_|refine blk_alloc ?_ _));exact BK382.out⟩,⟨by repeat (with_reducible first|exact HB.out|apply y01|apply y00|apply y02|refine y04 ?_ GE382.out)⟩⟩
    case round =>
     clear H'
     try clear p2
     try clear c3
     try clear c3b0
     try clear p2
     obtain ⟨x5_2,x383000_2,x383001_2,x383002_2,x383003_2,rfl,HA,HK2,BK382,HB⟩:=hrel;cases gk with
     |zero=>exact absurd HA.out (by simp [r6_crossed.l1])
     |succ k2 =>
      have H:=HA.out;clear HA;simp only [r6_crossed.l1] at H
      by_cases c4:x5_2<(l0.length:Int)
      ·rw [if_pos c4] at H
       have c4b0:decide (x5_2<(l0.length:Int))=true:=zDt c4;clear c4;have H':=As0.mk H;clear H;go_wp2
       repeat (go_quiet (fail);try go_wp2)
       go_loopg [6] k2 (fun kq v6 w'=>∃ (x6_3:Int) (x383000_3:Int) (x383001_3:Int) (x383002_3:Int) (x383003_3:Int),v6=.int .i64 x6_3∧As0 (r6_crossed.l2 kq l0 x4_1 x5_2 x6_3=some (r1,r2,r3,r4,r5))∧As0 (kq≤k2)∧As0 (w'.heap[gb382]?=some (.cells #[.int .i64 x383000_3,.int .i64 x383001_3,.int .i64 x383002_3,.int .i64 x383003_3] 31 (0,0)))∧As0 (Below w.heap.size w w'))
       case atStart=>exact ⟨(wrap64 (x5_2+1)),(x383000_2),(x383001_2),(x383002_2),(x383003_2),(by first|rfl|(simp;done)|(simp [*];done)),H',⟨zLe _⟩,⟨by (with_reducible repeat (first|refine y03 ?_ _|refine blk_drew ?_|refine blk_alloc ?_ _));exact BK382.out⟩,⟨by repeat (with_reducible first|exact HB.out|apply y01|apply y00|apply y02|refine y04 ?_ GE382.out)⟩⟩
       case round =>
        clear H'
        try clear p2
        try clear c3
        try clear c3b0
        try clear c4
        try clear c4b0
        try clear p2
        obtain ⟨x6_3,x383000_3,x383001_3,x383002_3,x383003_3,rfl,HA,HK3,BK382,HB⟩:=hrel;cases gk with
        |zero=>exact absurd HA.out (by simp [r6_crossed.l2])
        |succ k3 =>
         have H:=HA.out;clear HA;simp only [r6_crossed.l2] at H
         by_cases c5:x6_3<(l0.length:Int)
         ·rw [if_pos c5] at H
          have c5b0:decide (x6_3<(l0.length:Int))=true:=zDt c5;clear c5;have H':=As0.mk H;clear H;go_wp2
          repeat (go_quiet (fail);try go_wp2)
          go_loopg [7] k3 (fun kq v7 w'=>∃ (x7_4:Int) (x383000_4:Int) (x383001_4:Int) (x383002_4:Int) (x383003_4:Int),v7=.int .i64 x7_4∧As0 (r6_crossed.l3 kq l0 x4_1 x5_2 x6_3 x7_4=some (r1,r2,r3,r4,r5))∧As0 (kq≤k3)∧As0 (w'.heap[gb382]?=some (.cells #[.int .i64 x383000_4,.int .i64 x383001_4,.int .i64 x383002_4,.int .i64 x383003_4] 31 (0,0)))∧As0 (Below w.heap.size w w'))
          case atStart=>exact ⟨(wrap64 (x6_3+1)),(x383000_3),(x383001_3),(x383002_3),(x383003_3),(by first|rfl|(simp;done)|(simp [*];done)),H',⟨zLe _⟩,⟨by (with_reducible repeat (first|refine y03 ?_ _|refine blk_drew ?_|refine blk_alloc ?_ _));exact BK382.out⟩,⟨by repeat (with_reducible first|exact HB.out|apply y01|apply y00|apply y02|refine y04 ?_ GE382.out)⟩⟩
          case round =>
           clear H'
           try clear p2
           try clear c3
           try clear c3b0
           try clear c4
           try clear c4b0
           try clear c5
           try clear c5b0
           try clear p2
           obtain ⟨x7_4,x383000_4,x383001_4,x383002_4,x383003_4,rfl,HA,HK4,BK382,HB⟩:=hrel;cases gk with
           |zero=>exact absurd HA.out (by simp [r6_crossed.l3])
           |succ k4 =>
            have H:=HA.out;clear HA;simp only [r6_crossed.l3] at H
            by_cases c6:x7_4<(l0.length:Int)
            ·rw [if_pos c6] at H
             have c6b0:decide (x7_4<(l0.length:Int))=true:=zDt c6;clear c6
             by_cases c7:0≤x4_1
             ·rw [if_pos c7] at H
              have c7b0:decide (0≤x4_1)=true:=zDt c7;clear c7
              by_cases c8:x4_1<(l0.length:Int)
              ·rw [if_pos c8] at H
               have c8b0:decide (x4_1<(l0.length:Int))=true:=zDt c8;clear c8
               by_cases c9:0≤x6_3
               ·rw [if_pos c9] at H
                have c9b0:decide (0≤x6_3)=true:=zDt c9;clear c9
                by_cases c10:x6_3<(l0.length:Int)
                ·rw [if_pos c10] at H
                 have c10b0:decide (x6_3<(l0.length:Int))=true:=zDt c10;clear c10
                 by_cases c11:(rd l0 x4_1)=(rd l0 x6_3)
                 ·rw [if_pos c11] at H
                  have c11b0:((rd l0 x4_1) == (rd l0 x6_3))=true:=beq_iff_eq.mpr c11;have c11b1:((rd l0 x4_1) != (rd l0 x6_3))=false:=bne_eq_false_iff_eq.mpr c11;clear c11
                  by_cases c12:0≤x5_2
                  ·rw [if_pos c12] at H
                   have c12b0:decide (0≤x5_2)=true:=zDt c12;clear c12
                   by_cases c13:x5_2<(l0.length:Int)
                   ·rw [if_pos c13] at H
                    have c13b0:decide (x5_2<(l0.length:Int))=true:=zDt c13;clear c13
                    by_cases c14:0≤x7_4
                    ·rw [if_pos c14] at H
                     have c14b0:decide (0≤x7_4)=true:=zDt c14;clear c14
                     by_cases c15:(rd l0 x5_2)=(rd l0 x7_4)
                     ·rw [if_pos c15] at H
                      have c15b0:((rd l0 x5_2) == (rd l0 x7_4))=true:=beq_iff_eq.mpr c15;have c15b1:((rd l0 x5_2) != (rd l0 x7_4))=false:=bne_eq_false_iff_eq.mpr c15;clear c15
                      by_cases c16:(rd l0 x4_1)=(rd l0 x5_2)
                      ·rw [if_pos c16] at H
                       have c16b0:((rd l0 x4_1) == (rd l0 x5_2))=true:=beq_iff_eq.mpr c16;have c16b1:((rd l0 x4_1) != (rd l0 x5_2))=false:=bne_eq_false_iff_eq.mpr c16;clear c16;have H':=As0.mk H;clear H;have p383:0≤(x4_1:Int):=zDo (by with_reducible assumption);have q383:x4_1<(l0.length:Int):=zDo (by with_reducible assumption);obtain ⟨ad383,e383,hx383_0⟩:=Kd.at_int HR0.out x4_1 p383 q383;cases e383
                       replace hx383_0:=(HB.out.cell (World.block_lt_of_cell? w _ hx383_0)).trans hx383_0;replace p383:=eq_true p383;replace q383:=eq_true q383;have p384:0≤(x6_3:Int):=zDo (by with_reducible assumption);have q384:x6_3<(l0.length:Int):=zDo (by with_reducible assumption);obtain ⟨ad384,e384,hx384_0⟩:=Kd.at_int HR0.out x6_3 p384 q384;obtain rfl:ad383=ad384:=(by injection e384)
                       replace hx384_0:=(HB.out.cell (World.block_lt_of_cell? w _ hx384_0)).trans hx384_0;replace p384:=eq_true p384;replace q384:=eq_true q384;have p385:0≤(x5_2:Int):=zDo (by with_reducible assumption);have q385:x5_2<(l0.length:Int):=zDo (by with_reducible assumption);obtain ⟨ad385,e385,hx385_0⟩:=Kd.at_int HR0.out x5_2 p385 q385;obtain rfl:ad383=ad385:=(by injection e385)
                       replace hx385_0:=(HB.out.cell (World.block_lt_of_cell? w _ hx385_0)).trans hx385_0;replace p385:=eq_true p385;replace q385:=eq_true q385;have p386:0≤(x7_4:Int):=zDo (by with_reducible assumption);have q386:x7_4<(l0.length:Int):=zDo (by with_reducible assumption);obtain ⟨ad386,e386,hx386_0⟩:=Kd.at_int HR0.out x7_4 p386 q386;obtain rfl:ad383=ad386:=(by injection e386)
                       replace hx386_0:=(HB.out.cell (World.block_lt_of_cell? w _ hx386_0)).trans hx386_0;replace p386:=eq_true p386;replace q386:=eq_true q386;have p387:0≤(x4_1:Int):=zDo (by with_reducible assumption);have q387:x4_1<(l0.length:Int):=zDo (by with_reducible assumption);obtain ⟨ad387,e387,hx387_0⟩:=Kd.at_int HR0.out x4_1 p387 q387;obtain rfl:ad383=ad387:=(by injection e387)
                       replace hx387_0:=(HB.out.cell (World.block_lt_of_cell? w _ hx387_0)).trans hx387_0;replace p387:=eq_true p387;replace q387:=eq_true q387;have p388:0≤(x5_2:Int):=zDo (by with_reducible assumption);have q388:x5_2<(l0.length:Int):=zDo (by with_reducible assumption);obtain ⟨ad388,e388,hx388_0⟩:=Kd.at_int HR0.out x5_2 p388 q388;obtain rfl:ad383=ad388:=(by injection e388)
                       replace hx388_0:=(HB.out.cell (World.block_lt_of_cell? w _ hx388_0)).trans hx388_0;replace p388:=eq_true p388;replace q388:=eq_true q388;go_wp2
                       repeat (go_quiet (fail);try go_wp2)
                       go_roundg k4
                       case measure=>have:=HK1.out;have:=HK2.out;have:=HK3.out;have:=HK4.out;omega
                       case rel=>exact ⟨(wrap64 (x7_4+1)),(x383000_4),(x383001_4),(x383002_4),(x383003_4),(by first|rfl|(simp;done)|(simp [*];done)),H',⟨by have:=HK1.out;have:=HK2.out;have:=HK3.out;have:=HK4.out;omega⟩,⟨by (with_reducible repeat (first|refine y03 ?_ _|refine blk_drew ?_|refine blk_alloc ?_ _));exact BK382.out⟩,⟨by repeat (with_reducible first|exact HB.out|apply y01|apply y00|apply y02|refine y04 ?_ GE382.out)⟩⟩
                      ·rw [if_neg c16] at H
                       have c16b0:((rd l0 x4_1) == (rd l0 x5_2))=false:=beq_eq_false_iff_ne.mpr c16;have c16b1:((rd l0 x4_1) != (rd l0 x5_2))=true:=bne_iff_ne.mpr c16;simp only [Option.some.injEq,Prod.mk.injEq] at H;obtain ⟨rfl,rfl,rfl,rfl,rfl⟩:=H;have p383:0≤(x4_1:Int):=zDo (by with_reducible assumption);have q383:x4_1<(l0.length:Int):=zDo (by with_reducible assumption);obtain ⟨ad383,e383,hx383_0⟩:=Kd.at_int HR0.out x4_1 p383 q383;cases e383
                       replace hx383_0:=(HB.out.cell (World.block_lt_of_cell? w _ hx383_0)).trans hx383_0;replace p383:=eq_true p383;replace q383:=eq_true q383;have p384:0≤(x6_3:Int):=zDo (by with_reducible assumption);have q384:x6_3<(l0.length:Int):=zDo (by with_reducible assumption);obtain ⟨ad384,e384,hx384_0⟩:=Kd.at_int HR0.out x6_3 p384 q384;obtain rfl:ad383=ad384:=(by injection e384)
                       replace hx384_0:=(HB.out.cell (World.block_lt_of_cell? w _ hx384_0)).trans hx384_0;replace p384:=eq_true p384;replace q384:=eq_true q384;have p385:0≤(x5_2:Int):=zDo (by with_reducible assumption);have q385:x5_2<(l0.length:Int):=zDo (by with_reducible assumption);obtain ⟨ad385,e385,hx385_0⟩:=Kd.at_int HR0.out x5_2 p385 q385;obtain rfl:ad383=ad385:=(by injection e385)
                       replace hx385_0:=(HB.out.cell (World.block_lt_of_cell? w _ hx385_0)).trans hx385_0;replace p385:=eq_true p385;replace q385:=eq_true q385;have p386:0≤(x7_4:Int):=zDo (by with_reducible assumption);have q386:x7_4<(l0.length:Int):=zDo (by with_reducible assumption);obtain ⟨ad386,e386,hx386_0⟩:=Kd.at_int HR0.out x7_4 p386 q386;obtain rfl:ad383=ad386:=(by injection e386)
                       replace hx386_0:=(HB.out.cell (World.block_lt_of_cell? w _ hx386_0)).trans hx386_0;replace p386:=eq_true p386;replace q386:=eq_true q386;have p387:0≤(x4_1:Int):=zDo (by with_reducible assumption);have q387:x4_1<(l0.length:Int):=zDo (by with_reducible assumption);obtain ⟨ad387,e387,hx387_0⟩:=Kd.at_int HR0.out x4_1 p387 q387;obtain rfl:ad383=ad387:=(by injection e387)
                       replace hx387_0:=(HB.out.cell (World.block_lt_of_cell? w _ hx387_0)).trans hx387_0;replace p387:=eq_true p387;replace q387:=eq_true q387;have p388:0≤(x5_2:Int):=zDo (by with_reducible assumption);have q388:x5_2<(l0.length:Int):=zDo (by with_reducible assumption);obtain ⟨ad388,e388,hx388_0⟩:=Kd.at_int HR0.out x5_2 p388 q388;obtain rfl:ad383=ad388:=(by injection e388)
                       replace hx388_0:=(HB.out.cell (World.block_lt_of_cell? w _ hx388_0)).trans hx388_0;replace p388:=eq_true p388;replace q388:=eq_true q388;have hcz17_0:wr.cell? ⟨gb382,0,none⟩=some (.int .i64 x383000_4):=(y08 BK382.out 0).trans rfl;have hcz17_1:wr.cell? ⟨gb382,1,none⟩=some (.int .i64 x383001_4):=(y08 BK382.out 1).trans rfl;have hcz17_2:wr.cell? ⟨gb382,2,none⟩=some (.int .i64 x383002_4):=(y08 BK382.out 2).trans rfl;have hcz17_3:wr.cell? ⟨gb382,3,none⟩=some (.int .i64 x383003_4):=(y08 BK382.out 3).trans rfl;have hfz17_0:=y06 BK382.out 0;have hfz17_1:=y06 BK382.out 1;have hfz17_2:=y06 BK382.out 2;have hfz17_3:=y06 BK382.out 3;go_wp2
                       repeat (go_quiet (fail);try go_wp2)
                       refine bodyPost_ret (y3p rfl _ _ gb382 31 #[.int .i64 x4_1,.int .i64 x5_2,.int .i64 x6_3,.int .i64 x7_4] (0,0) _ rfl (by (with_reducible repeat (first|refine y03 ?_ _|refine blk_drew ?_|refine blk_alloc ?_ _));refine y0g (cs:=#[.int .i64 x4_1,.int .i64 x5_2,.int .i64 x6_3,.int .i64 x383003_4]) ?_ 3 _ rfl;(with_reducible repeat (first|refine y03 ?_ _|refine blk_drew ?_|refine blk_alloc ?_ _));refine y0g (cs:=#[.int .i64 x4_1,.int .i64 x5_2,.int .i64 x383002_4,.int .i64 x383003_4]) ?_ 2 _ rfl;(with_reducible repeat (first|refine y03 ?_ _|refine blk_drew ?_|refine blk_alloc ?_ _));refine y0g (cs:=#[.int .i64 x4_1,.int .i64 x383001_4,.int .i64 x383002_4,.int .i64 x383003_4]) ?_ 1 _ rfl;(with_reducible repeat (first|refine y03 ?_ _|refine blk_drew ?_|refine blk_alloc ?_ _));refine y0g (cs:=#[.int .i64 x383000_4,.int .i64 x383001_4,.int .i64 x383002_4,.int .i64 x383003_4]) ?_ 0 _ rfl;(with_reducible repeat (first|refine y03 ?_ _|refine blk_drew ?_|refine blk_alloc ?_ _));exact BK382.out) Tra.underlying31 rfl (by kernel_rfl)) rfl ?_;exact ⟨by first|rfl|(simp [y0a,y09]<;>rfl)|(simp [*,y0a,y09]<;>rfl),by repeat (with_reducible first|exact HB.out|apply y01|apply y00|apply y02|refine y04 ?_ GE382.out)⟩
                     ·rw [if_neg c15] at H
                      have c15b0:((rd l0 x5_2) == (rd l0 x7_4))=false:=beq_eq_false_iff_ne.mpr c15;have c15b1:((rd l0 x5_2) != (rd l0 x7_4))=true:=bne_iff_ne.mpr c15;have H':=As0.mk H;clear H;have p383:0≤(x4_1:Int):=zDo (by with_reducible assumption);have q383:x4_1<(l0.length:Int):=zDo (by with_reducible assumption);obtain ⟨ad383,e383,hx383_0⟩:=Kd.at_int HR0.out x4_1 p383 q383;cases e383
                      replace hx383_0:=(HB.out.cell (World.block_lt_of_cell? w _ hx383_0)).trans hx383_0;replace p383:=eq_true p383;replace q383:=eq_true q383;have p384:0≤(x6_3:Int):=zDo (by with_reducible assumption);have q384:x6_3<(l0.length:Int):=zDo (by with_reducible assumption);obtain ⟨ad384,e384,hx384_0⟩:=Kd.at_int HR0.out x6_3 p384 q384;obtain rfl:ad383=ad384:=(by injection e384)
                      replace hx384_0:=(HB.out.cell (World.block_lt_of_cell? w _ hx384_0)).trans hx384_0;replace p384:=eq_true p384;replace q384:=eq_true q384;have p385:0≤(x5_2:Int):=zDo (by with_reducible assumption);have q385:x5_2<(l0.length:Int):=zDo (by with_reducible assumption);obtain ⟨ad385,e385,hx385_0⟩:=Kd.at_int HR0.out x5_2 p385 q385;obtain rfl:ad383=ad385:=(by injection e385)
                      replace hx385_0:=(HB.out.cell (World.block_lt_of_cell? w _ hx385_0)).trans hx385_0;replace p385:=eq_true p385;replace q385:=eq_true q385;have p386:0≤(x7_4:Int):=zDo (by with_reducible assumption);have q386:x7_4<(l0.length:Int):=zDo (by with_reducible assumption);obtain ⟨ad386,e386,hx386_0⟩:=Kd.at_int HR0.out x7_4 p386 q386;obtain rfl:ad383=ad386:=(by injection e386)
                      replace hx386_0:=(HB.out.cell (World.block_lt_of_cell? w _ hx386_0)).trans hx386_0;replace p386:=eq_true p386;replace q386:=eq_true q386;go_wp2
                      repeat (go_quiet (fail);try go_wp2)
                      go_roundg k4
                      case measure=>have:=HK1.out;have:=HK2.out;have:=HK3.out;have:=HK4.out;omega
                      case rel=>exact ⟨(wrap64 (x7_4+1)),(x383000_4),(x383001_4),(x383002_4),(x383003_4),(by first|rfl|(simp;done)|(simp [*];done)),H',⟨by have:=HK1.out;have:=HK2.out;have:=HK3.out;have:=HK4.out;omega⟩,⟨by (with_reducible repeat (first|refine y03 ?_ _|refine blk_drew ?_|refine blk_alloc ?_ _));exact BK382.out⟩,⟨by repeat (with_reducible first|exact HB.out|apply y01|apply y00|apply y02|refine y04 ?_ GE382.out)⟩⟩
                    ·rw [if_neg c14] at H
                     exact absurd H (by simp)
                   ·rw [if_neg c13] at H
                    exact absurd H (by simp)
                  ·rw [if_neg c12] at H
                   exact absurd H (by simp)
                 ·rw [if_neg c11] at H
                  have c11b0:((rd l0 x4_1) == (rd l0 x6_3))=false:=beq_eq_false_iff_ne.mpr c11;have c11b1:((rd l0 x4_1) != (rd l0 x6_3))=true:=bne_iff_ne.mpr c11;have H':=As0.mk H;clear H;have p383:0≤(x4_1:Int):=zDo (by with_reducible assumption);have q383:x4_1<(l0.length:Int):=zDo (by with_reducible assumption);obtain ⟨ad383,e383,hx383_0⟩:=Kd.at_int HR0.out x4_1 p383 q383;cases e383
                  replace hx383_0:=(HB.out.cell (World.block_lt_of_cell? w _ hx383_0)).trans hx383_0;replace p383:=eq_true p383;replace q383:=eq_true q383;have p384:0≤(x6_3:Int):=zDo (by with_reducible assumption);have q384:x6_3<(l0.length:Int):=zDo (by with_reducible assumption);obtain ⟨ad384,e384,hx384_0⟩:=Kd.at_int HR0.out x6_3 p384 q384;obtain rfl:ad383=ad384:=(by injection e384)
                  replace hx384_0:=(HB.out.cell (World.block_lt_of_cell? w _ hx384_0)).trans hx384_0;replace p384:=eq_true p384;replace q384:=eq_true q384;go_wp2
                  repeat (go_quiet (fail);try go_wp2)
                  go_roundg k4
                  case measure=>have:=HK1.out;have:=HK2.out;have:=HK3.out;have:=HK4.out;omega
                  case rel=>exact ⟨(wrap64 (x7_4+1)),(x383000_4),(x383001_4),(x383002_4),(x383003_4),(by first|rfl|(simp;done)|(simp [*];done)),H',⟨by have:=HK1.out;have:=HK2.out;have:=HK3.out;have:=HK4.out;omega⟩,⟨by (with_reducible repeat (first|refine y03 ?_ _|refine blk_drew ?_|refine blk_alloc ?_ _));exact BK382.out⟩,⟨by repeat (with_reducible first|exact HB.out|apply y01|apply y00|apply y02|refine y04 ?_ GE382.out)⟩⟩
                ·rw [if_neg c10] at H
                 exact absurd H (by simp)
               ·rw [if_neg c9] at H
                exact absurd H (by simp)
              ·rw [if_neg c8] at H
               exact absurd H (by simp)
             ·rw [if_neg c7] at H
              exact absurd H (by simp)
            ·rw [if_neg c6] at H
             have c6b0:decide (x7_4<(l0.length:Int))=false:=zDf c6;clear c6;have H':=As0.mk H;clear H;go_wp2
             repeat (go_quiet (fail);try go_wp2)
             go_roundg k4
             case measure=>have:=HK1.out;have:=HK2.out;have:=HK3.out;have:=HK4.out;omega
             case rel=>exact ⟨(wrap64 (x6_3+1)),(x383000_4),(x383001_4),(x383002_4),(x383003_4),(by first|rfl|(simp;done)|(simp [*];done)),H',⟨by have:=HK1.out;have:=HK2.out;have:=HK3.out;have:=HK4.out;omega⟩,⟨by (with_reducible repeat (first|refine y03 ?_ _|refine blk_drew ?_|refine blk_alloc ?_ _));exact BK382.out⟩,⟨by repeat (with_reducible first|exact HB.out|apply y01|apply y00|apply y02|refine y04 ?_ GE382.out)⟩⟩
         ·rw [if_neg c5] at H
          have c5b0:decide (x6_3<(l0.length:Int))=false:=zDf c5;clear c5;have H':=As0.mk H;clear H;go_wp2
          repeat (go_quiet (fail);try go_wp2)
          go_roundg k3
          case measure=>have:=HK1.out;have:=HK2.out;have:=HK3.out;omega
          case rel=>exact ⟨(wrap64 (x5_2+1)),(x383000_3),(x383001_3),(x383002_3),(x383003_3),(by first|rfl|(simp;done)|(simp [*];done)),H',⟨by have:=HK1.out;have:=HK2.out;have:=HK3.out;omega⟩,⟨by (with_reducible repeat (first|refine y03 ?_ _|refine blk_drew ?_|refine blk_alloc ?_ _));exact BK382.out⟩,⟨by repeat (with_reducible first|exact HB.out|apply y01|apply y00|apply y02|refine y04 ?_ GE382.out)⟩⟩
      ·rw [if_neg c4] at H
       have c4b0:decide (x5_2<(l0.length:Int))=false:=zDf c4;clear c4;have H':=As0.mk H;clear H;go_wp2
       repeat (go_quiet (fail);try go_wp2)
       go_roundg k2
       case measure=>have:=HK1.out;have:=HK2.out;omega
       case rel=>exact ⟨(wrap64 (x4_1+1)),(x383000_2),(x383001_2),(x383002_2),(x383003_2),(by first|rfl|(simp;done)|(simp [*];done)),H',⟨by have:=HK1.out;have:=HK2.out;omega⟩,⟨by (with_reducible repeat (first|refine y03 ?_ _|refine blk_drew ?_|refine blk_alloc ?_ _));exact BK382.out⟩,⟨by repeat (with_reducible first|exact HB.out|apply y01|apply y00|apply y02|refine y04 ?_ GE382.out)⟩⟩
   ·rw [if_neg c3] at H
    have c3b0:decide (x4_1<(l0.length:Int))=false:=zDf c3;clear c3;simp only [Option.some.injEq,Prod.mk.injEq] at H;obtain ⟨rfl,rfl,rfl,rfl,rfl⟩:=H;have hcz18_0:wr.cell? ⟨gb382,0,none⟩=some (.int .i64 x383000_1):=(y08 BK382.out 0).trans rfl;have hcz18_1:wr.cell? ⟨gb382,1,none⟩=some (.int .i64 x383001_1):=(y08 BK382.out 1).trans rfl;have hcz18_2:wr.cell? ⟨gb382,2,none⟩=some (.int .i64 x383002_1):=(y08 BK382.out 2).trans rfl;have hcz18_3:wr.cell? ⟨gb382,3,none⟩=some (.int .i64 x383003_1):=(y08 BK382.out 3).trans rfl;have hfz18_0:=y06 BK382.out 0;have hfz18_1:=y06 BK382.out 1;have hfz18_2:=y06 BK382.out 2;have hfz18_3:=y06 BK382.out 3;go_wp2
    repeat (go_quiet (fail);try go_wp2)
    refine bodyPost_ret (y3p rfl _ _ gb382 31 #[.int .i64 0,.int .i64 0,.int .i64 0,.int .i64 0] (0,0) _ rfl (by (with_reducible repeat (first|refine y03 ?_ _|refine blk_drew ?_|refine blk_alloc ?_ _));refine y0g (cs:=#[.int .i64 0,.int .i64 0,.int .i64 0,.int .i64 x383003_1]) ?_ 3 _ rfl;(with_reducible repeat (first|refine y03 ?_ _|refine blk_drew ?_|refine blk_alloc ?_ _));refine y0g (cs:=#[.int .i64 0,.int .i64 0,.int .i64 x383002_1,.int .i64 x383003_1]) ?_ 2 _ rfl;(with_reducible repeat (first|refine y03 ?_ _|refine blk_drew ?_|refine blk_alloc ?_ _));refine y0g (cs:=#[.int .i64 0,.int .i64 x383001_1,.int .i64 x383002_1,.int .i64 x383003_1]) ?_ 1 _ rfl;(with_reducible repeat (first|refine y03 ?_ _|refine blk_drew ?_|refine blk_alloc ?_ _));refine y0g (cs:=#[.int .i64 x383000_1,.int .i64 x383001_1,.int .i64 x383002_1,.int .i64 x383003_1]) ?_ 0 _ rfl;(with_reducible repeat (first|refine y03 ?_ _|refine blk_drew ?_|refine blk_alloc ?_ _));exact BK382.out) Tra.underlying31 rfl (by kernel_rfl)) rfl ?_;exact ⟨by first|rfl|(simp [y0a,y09]<;>rfl)|(simp [*,y0a,y09]<;>rfl),by repeat (with_reducible first|exact HB.out|apply y01|apply y00|apply y02|refine y04 ?_ GE382.out)⟩
def r6_Crossed.f (k:Nat) (l0:List Int):Option (Int × Int × Int × Int × Bool × Int):=(r6_Parting.f k l0).bind fun t390=>(if t390=0 then ((r6_crossed.f k l0).bind fun bt391=>(some (bt391.1,bt391.2.1,bt391.2.2.1,bt391.2.2.2.1,bt391.2.2.2.2,0))) else (some (0,0,0,0,false,t390)))
theorem r6_Crossed.calls (k:Nat) (A0:Option Addr) (c0:Nat) (l0:List Int) (r1:Int) (r2:Int) (r3:Int) (r4:Int) (r5:Bool) (r6:Int) (w:World) (hr0:Kd.C (Kd.int .i64) w A0 l0.length l0) (hc0:l0.length≤c0) (h:r6_Crossed.f k l0=some (r1,r2,r3,r4,r5,r6)) :
  Calls Tra.prog 24 #[.slice A0 l0.length c0] w fun e w'=>e=.returned (.tuple #[.agg #[.int .i64 r1,.int .i64 r2,.int .i64 r3,.int .i64 r4],.bool r5,.int .i64 r6])∧Below w.heap.size w w':=by
 have hu31:=Tra.underlying31;have HR0:=As0.mk hr0;have HC0:=As0.mk hc0;clear hr0 hc0;have HB:=As0.mk (Below.refl w.heap.size w);have H:((r6_Parting.f k l0).bind fun t390=>(if t390=0 then ((r6_crossed.f k l0).bind fun bt391=>(some (bt391.1,bt391.2.1,bt391.2.2.1,bt391.2.2.2.1,bt391.2.2.2.2,0))) else (some (0,0,0,0,false,t390))))=some (r1,r2,r3,r4,r5,r6):=h;clear h;replace H:=Option.bind_eq_some_iff.mp H;obtain ⟨t390,A20,H⟩:=H;replace H:(if t390=0 then ((r6_crossed.f k l0).bind fun bt391=>(some (bt391.1,bt391.2.1,bt391.2.2.1,bt391.2.2.2.1,bt391.2.2.2.2,0))) else (some (0,0,0,0,false,t390)))=some (r1,r2,r3,r4,r5,r6):=H;have A2:=As0.mk A20;clear A20
 by_cases c3:t390=0
 ·rw [if_pos c3] at H
  have c3b0:(t390 == 0)=true:=beq_iff_eq.mpr c3;have c3b1:(t390 != 0)=false:=bne_eq_false_iff_eq.mpr c3;clear c3;replace H:=Option.bind_eq_some_iff.mp H;obtain ⟨⟨t391,t392,t393,t394,t395⟩,A40,H⟩:=H;replace H:(some (t391,t392,t393,t394,t395,0))=some (r1,r2,r3,r4,r5,r6):=H;have A4:=As0.mk A40;clear A40;simp only [Option.some.injEq,Prod.mk.injEq] at H;obtain ⟨rfl,rfl,rfl,rfl,rfl,rfl⟩:=H;go_enter Tra.func24,Tra.ntmps24
  go_wp2_with (first|((with_reducible refine y0i (N:=2) rfl ?_);refine y0q ?hg (N:=2) ?hd (cs:=#[.int .i64 0,.int .i64 0,.int .i64 0,.int .i64 0]) (t:=31) ?hr ?_;(case hd=>rfl);(case hg=>rfl);(case hr=>first|(go_simp;done)|(go_simp;rfl));intro gb389 hg w5 hbox hb;have n0_:=As0.mk (y07 (by repeat (with_reducible first|exact HB.out|apply y01|apply y00|apply y02)) hb);have n1_:=As0.mk (hbox);have n2_:=As0.mk ((by rw [hg];exact (y05 (by repeat (with_reducible first|exact HB.out|apply y01|apply y00|apply y02))):w.heap.size≤gb389));have n3_:=As0.mk ((by rw [hg];exact (y05 (by repeat (with_reducible first|exact HB.out|apply y01|apply y00|apply y02))):w.heap.size≤gb389));clear HB;have HB:=n0_;have BK389:=n1_;have GW389:=n2_;have GE389:=n3_;clear n0_ n1_ n2_ n3_;clear hb hbox hg)|((with_reducible refine y0d (f:=51) rfl ?_);refine y0m (some 9) rfl rfl Tra.func51 (by kernel_rfl) rfl #[.slice A0 l0.length c0] rfl (by (try simp only [List.map_toArray,List.map_cons,List.map_nil]);first|done|rfl|(simp only [List.length_drop,List.length_take];rfl)) ?_;(with_reducible refine (r6_Parting.calls k _ _ l0 t390 _ ?side1 ?side2 A2.out).mono ?_);(case side1=>repeat (first|exact (Kd.C_below HR0.out HB.out)|(with_reducible refine Kd.C_alloc ?_ _)|(with_reducible refine Kd.C_drewN ?_ _)|(with_reducible refine Kd.C_drew ?_)));(case side2=>exact HC0.out);rintro e w' ⟨rfl,⟨nd,rfl⟩⟩;refine ⟨_,rfl,?_⟩;(try (rw [y32 w5];generalize hq_:World.drewN w5 _=w5;have n0_:As0 (w5.heap[gb389]?=some (.cells #[.int .i64 0,.int .i64 0,.int .i64 0,.int .i64 0] 31 (0,0))):=⟨by rw [← hq_];exact (by (with_reducible repeat (first|refine y03 ?_ _|refine blk_drew ?_|refine blk_alloc ?_ _));exact BK389.out)⟩;have n1_:As0 (Below w.heap.size w w5):=⟨by rw [← hq_];exact (by repeat (with_reducible first|exact HB.out|apply y01|apply y00|apply y02|refine y04 ?_ GE389.out))⟩;clear BK389 HB hq_;have BK389:=n0_;have HB:=n1_;clear n0_ n1_)))|((with_reducible refine y0d (f:=52) rfl ?_);refine y0m (some 16) rfl rfl Tra.func52 (by kernel_rfl) rfl #[.slice A0 l0.length c0] rfl (by (try simp only [List.map_toArray,List.map_cons,List.map_nil]);first|done|rfl|(simp only [List.length_drop,List.length_take];rfl)) ?_;(with_reducible refine (r6_crossed.calls k _ _ l0 t391 t392 t393 t394 t395 _ ?side1 ?side2 A4.out).mono ?_);(case side1=>repeat (first|exact (Kd.C_below HR0.out HB.out)|(with_reducible refine Kd.C_alloc ?_ _)|(with_reducible refine Kd.C_drewN ?_ _)|(with_reducible refine Kd.C_drew ?_)));(case side2=>exact HC0.out);rintro e w6 ⟨rfl,hb⟩;refine ⟨_,rfl,?_⟩;have n0_:=As0.mk (y0h (g:=gb389) (o:=.cells #[.int .i64 0,.int .i64 0,.int .i64 0,.int .i64 0] 31 (0,0)) (by (with_reducible repeat (first|refine y03 ?_ _|refine blk_drew ?_|refine blk_alloc ?_ _));exact BK389.out) hb);have n1_:=As0.mk (y07 (by repeat (with_reducible first|exact HB.out|apply y01|apply y00|apply y02|refine y04 ?_ GE389.out)) hb);clear BK389;clear HB;have BK389:=n0_;have HB:=n1_;clear n0_ n1_;(try clear hb);(try clear hb2);(try clear hk);(try clear hi))|((with_reducible refine y0i (N:=6) rfl ?_);refine y0q ?hg (N:=6) ?hd (cs:=#[.int .i64 0,.int .i64 0,.int .i64 0,.int .i64 0]) (t:=31) ?hr ?_;(case hd=>rfl);(case hg=>rfl);(case hr=>first|(go_simp;done)|(go_simp;rfl));intro gb396 hg w7 hbox hb;have n0_:=As0.mk (y0h (g:=gb389) (o:=.cells #[.int .i64 0,.int .i64 0,.int .i64 0,.int .i64 0] 31 (0,0)) (by (with_reducible repeat (first|refine y03 ?_ _|refine blk_drew ?_|refine blk_alloc ?_ _));exact BK389.out) hb);have n1_:=As0.mk (y07 (by repeat (with_reducible first|exact HB.out|apply y01|apply y00|apply y02|refine y04 ?_ GE389.out)) hb);have n2_:=As0.mk (hbox);have n3_:=As0.mk ((by rw [hg];exact (y05 (by repeat (with_reducible first|exact HB.out|apply y01|apply y00|apply y02|refine y04 ?_ GE389.out))):w.heap.size≤gb396));have n4_:=As0.mk ((by rw [hg];exact (y05 (by repeat (with_reducible first|exact HB.out|apply y01|apply y00|apply y02|refine y04 ?_ GE389.out))):w.heap.size≤gb396));have n5_:=As0.mk ((by rw [hg];exact Nat.ne_of_lt (y3f (g:=gb389) (o:=.cells #[.int .i64 0,.int .i64 0,.int .i64 0,.int .i64 0] 31 (0,0)) (by (with_reducible repeat (first|refine y03 ?_ _|refine blk_drew ?_|refine blk_alloc ?_ _));exact BK389.out)):gb389≠gb396));have n6_:=As0.mk ((by rw [hg];exact Nat.ne_of_gt (y3f (g:=gb389) (o:=.cells #[.int .i64 0,.int .i64 0,.int .i64 0,.int .i64 0] 31 (0,0)) (by (with_reducible repeat (first|refine y03 ?_ _|refine blk_drew ?_|refine blk_alloc ?_ _));exact BK389.out)):gb396≠gb389));clear BK389;clear HB;have BK389:=n0_;have HB:=n1_;have BK396:=n2_;have GW396:=n3_;have GE396:=n4_;have NB389_396:=n5_;have NB396_389:=n6_;clear n0_ n1_ n2_ n3_ n4_ n5_ n6_;clear hb hbox hg;have hnb8:=NB396_389.out;have hnc8:=NB389_396.out;have hcz9_0:w7.cell? ⟨gb396,0,none⟩=some (.int .i64 0):=(y08 BK396.out 0).trans rfl;have hcz9_1:w7.cell? ⟨gb396,1,none⟩=some (.int .i64 0):=(y08 BK396.out 1).trans rfl;have hcz9_2:w7.cell? ⟨gb396,2,none⟩=some (.int .i64 0):=(y08 BK396.out 2).trans rfl;have hcz9_3:w7.cell? ⟨gb396,3,none⟩=some (.int .i64 0):=(y08 BK396.out 3).trans rfl;have hfz9_0:=y06 BK396.out 0;have hfz9_1:=y06 BK396.out 1;have hfz9_2:=y06 BK396.out 2;have hfz9_3:=y06 BK396.out 3;have hcz10_0:w7.cell? ⟨gb389,0,none⟩=some (.int .i64 0):=(y08 BK389.out 0).trans rfl;have hcz10_1:w7.cell? ⟨gb389,1,none⟩=some (.int .i64 0):=(y08 BK389.out 1).trans rfl;have hcz10_2:w7.cell? ⟨gb389,2,none⟩=some (.int .i64 0):=(y08 BK389.out 2).trans rfl;have hcz10_3:w7.cell? ⟨gb389,3,none⟩=some (.int .i64 0):=(y08 BK389.out 3).trans rfl;have hfz10_0:=y06 BK389.out 0;have hfz10_1:=y06 BK389.out 1;have hfz10_2:=y06 BK389.out 2;have hfz10_3:=y06 BK389.out 3))
  refine bodyPost_ret (y37 rfl _ _ gb389 31 #[.int .i64 t391,.int .i64 t392,.int .i64 t393,.int .i64 t394] (0,0) _ rfl (by (with_reducible repeat (first|refine y03 ?_ _|refine blk_drew ?_|refine blk_alloc ?_ _));refine y0g (cs:=#[.int .i64 t391,.int .i64 t392,.int .i64 t393,.int .i64 0]) ?_ 3 _ rfl;(with_reducible repeat (first|refine y03 ?_ _|refine blk_drew ?_|refine blk_alloc ?_ _));refine y0g (cs:=#[.int .i64 t391,.int .i64 t392,.int .i64 0,.int .i64 0]) ?_ 2 _ rfl;(with_reducible repeat (first|refine y03 ?_ _|refine blk_drew ?_|refine blk_alloc ?_ _));refine y0g (cs:=#[.int .i64 t391,.int .i64 0,.int .i64 0,.int .i64 0]) ?_ 1 _ rfl;(with_reducible repeat (first|refine y03 ?_ _|refine blk_drew ?_|refine blk_alloc ?_ _));refine y0g (cs:=#[.int .i64 0,.int .i64 0,.int .i64 0,.int .i64 0]) ?_ 0 _ rfl;(with_reducible repeat (first|refine y03 ?_ _|refine blk_drew ?_|refine blk_alloc ?_ _));refine y1a ?_ NB389_396.out _;(with_reducible repeat (first|refine y03 ?_ _|refine blk_drew ?_|refine blk_alloc ?_ _));refine y1a ?_ NB389_396.out _;(with_reducible repeat (first|refine y03 ?_ _|refine blk_drew ?_|refine blk_alloc ?_ _));refine y1a ?_ NB389_396.out _;(with_reducible repeat (first|refine y03 ?_ _|refine blk_drew ?_|refine blk_alloc ?_ _));refine y1a ?_ NB389_396.out _;(with_reducible repeat (first|refine y03 ?_ _|refine blk_drew ?_|refine blk_alloc ?_ _));exact BK389.out) Tra.underlying31 rfl (by kernel_rfl)) rfl ?_;exact ⟨by first|rfl|(simp [y0a,y09]<;>rfl)|(simp [*,y0a,y09]<;>rfl),by repeat (with_reducible first|exact HB.out|apply y01|apply y00|apply y02|refine y04 ?_ GE389.out|refine y04 ?_ GE396.out)⟩
 ·rw [if_neg c3] at H
  have c3b0:(t390 == 0)=false:=beq_eq_false_iff_ne.mpr c3;have c3b1:(t390 != 0)=true:=bne_iff_ne.mpr c3;simp only [Option.some.injEq,Prod.mk.injEq] at H;obtain ⟨rfl,rfl,rfl,rfl,rfl,rfl⟩:=H;go_enter Tra.func24,Tra.ntmps24
  go_wp2_with (first|((with_reducible refine y0i (N:=2) rfl ?_);refine y0q ?hg (N:=2) ?hd (cs:=#[.int .i64 0,.int .i64 0,.int .i64 0,.int .i64 0]) (t:=31) ?hr ?_;(case hd=>rfl);(case hg=>rfl);(case hr=>first|(go_simp;done)|(go_simp;rfl));intro gb389 hg w11 hbox hb;have n0_:=As0.mk (y07 (by repeat (with_reducible first|exact HB.out|apply y01|apply y00|apply y02)) hb);have n1_:=As0.mk (hbox);have n2_:=As0.mk ((by rw [hg];exact (y05 (by repeat (with_reducible first|exact HB.out|apply y01|apply y00|apply y02))):w.heap.size≤gb389));have n3_:=As0.mk ((by rw [hg];exact (y05 (by repeat (with_reducible first|exact HB.out|apply y01|apply y00|apply y02))):w.heap.size≤gb389));clear HB;have HB:=n0_;have BK389:=n1_;have GW389:=n2_;have GE389:=n3_;clear n0_ n1_ n2_ n3_;clear hb hbox hg)|((with_reducible refine y0d (f:=51) rfl ?_);refine y0m (some 9) rfl rfl Tra.func51 (by kernel_rfl) rfl #[.slice A0 l0.length c0] rfl (by (try simp only [List.map_toArray,List.map_cons,List.map_nil]);first|done|rfl|(simp only [List.length_drop,List.length_take];rfl)) ?_;(with_reducible refine (r6_Parting.calls k _ _ l0 t390 _ ?side1 ?side2 A2.out).mono ?_);(case side1=>repeat (first|exact (Kd.C_below HR0.out HB.out)|(with_reducible refine Kd.C_alloc ?_ _)|(with_reducible refine Kd.C_drewN ?_ _)|(with_reducible refine Kd.C_drew ?_)));(case side2=>exact HC0.out);rintro e w' ⟨rfl,⟨nd,rfl⟩⟩;refine ⟨_,rfl,?_⟩;(try (rw [y32 w11];generalize hq_:World.drewN w11 _=w11;have n0_:As0 (w11.heap[gb389]?=some (.cells #[.int .i64 0,.int .i64 0,.int .i64 0,.int .i64 0] 31 (0,0))):=⟨by rw [← hq_];exact (by (with_reducible repeat (first|refine y03 ?_ _|refine blk_drew ?_|refine blk_alloc ?_ _));exact BK389.out)⟩;have n1_:As0 (Below w.heap.size w w11):=⟨by rw [← hq_];exact (by repeat (with_reducible first|exact HB.out|apply y01|apply y00|apply y02|refine y04 ?_ GE389.out))⟩;clear BK389 HB hq_;have BK389:=n0_;have HB:=n1_;clear n0_ n1_));have hcz12_0:w11.cell? ⟨gb389,0,none⟩=some (.int .i64 0):=(y08 BK389.out 0).trans rfl;have hcz12_1:w11.cell? ⟨gb389,1,none⟩=some (.int .i64 0):=(y08 BK389.out 1).trans rfl;have hcz12_2:w11.cell? ⟨gb389,2,none⟩=some (.int .i64 0):=(y08 BK389.out 2).trans rfl;have hcz12_3:w11.cell? ⟨gb389,3,none⟩=some (.int .i64 0):=(y08 BK389.out 3).trans rfl;have hfz12_0:=y06 BK389.out 0;have hfz12_1:=y06 BK389.out 1;have hfz12_2:=y06 BK389.out 2;have hfz12_3:=y06 BK389.out 3))
  refine bodyPost_ret (y37 rfl _ _ gb389 31 #[.int .i64 0,.int .i64 0,.int .i64 0,.int .i64 0] (0,0) _ rfl (by (with_reducible repeat (first|refine y03 ?_ _|refine blk_drew ?_|refine blk_alloc ?_ _));refine y0g (cs:=#[.int .i64 0,.int .i64 0,.int .i64 0,.int .i64 0]) ?_ 3 _ rfl;(with_reducible repeat (first|refine y03 ?_ _|refine blk_drew ?_|refine blk_alloc ?_ _));refine y0g (cs:=#[.int .i64 0,.int .i64 0,.int .i64 0,.int .i64 0]) ?_ 2 _ rfl;(with_reducible repeat (first|refine y03 ?_ _|refine blk_drew ?_|refine blk_alloc ?_ _));refine y0g (cs:=#[.int .i64 0,.int .i64 0,.int .i64 0,.int .i64 0]) ?_ 1 _ rfl;(with_reducible repeat (first|refine y03 ?_ _|refine blk_drew ?_|refine blk_alloc ?_ _));refine y0g (cs:=#[.int .i64 0,.int .i64 0,.int .i64 0,.int .i64 0]) ?_ 0 _ rfl;(with_reducible repeat (first|refine y03 ?_ _|refine blk_drew ?_|refine blk_alloc ?_ _));exact BK389.out) Tra.underlying31 rfl (by kernel_rfl)) rfl ?_;exact ⟨by first|rfl|(simp [y0a,y09]<;>rfl)|(simp [*,y0a,y09]<;>rfl),by repeat (with_reducible first|exact HB.out|apply y01|apply y00|apply y02|refine y04 ?_ GE389.out)⟩
mutual
def r6_numbered.l0:Nat->List Int->List Int->Int->Int->Option (List Int)
 |0,_,_,_,_=>none
 |k+1,x0,x3,x4,x5=>if x5<(x0.length:Int) then (r6_numbered.l1 k x0 x3 x4 x5 (-1) 0) else (some x3)
def r6_numbered.l1:Nat->List Int->List Int->Int->Int->Int->Int->Option (List Int)
 |0,_,_,_,_,_,_=>none
 |k+1,x0,x3,x4,x5,x6,x7=>if x7<x5 then (r6_numbered.j2 k x0 x3 x4 x5 x6 x7 (decide (x6<0))) else (r6_numbered.j2 k x0 x3 x4 x5 x6 x7 false)
def r6_numbered.j2:Nat->List Int->List Int->Int->Int->Int->Int->Bool->Option (List Int)
 |0,_,_,_,_,_,_,_=>none
 |k+1,x0,x3,x4,x5,x6,x7,x20=>if x20=true then (if 0≤x7 then (if x7<(x0.length:Int) then (if 0≤x5 then (if x5<(x0.length:Int) then (if (rd x0 x7)=(rd x0 x5) then (if x7<(x3.length:Int) then (r6_numbered.l1 k x0 x3 x4 x5 (rd x3 x7) (wrap64 (x7+1))) else (none)) else (r6_numbered.l1 k x0 x3 x4 x5 x6 (wrap64 (x7+1)))) else (none)) else (none)) else (none)) else (none)) else (if x6<0 then (if x3.length<17592186044416 then (r6_numbered.l0 k x0 (x3 ++ [x4]) (wrap64 (x4+1)) (wrap64 (x5+1))) else (none)) else (if x3.length<17592186044416 then (r6_numbered.l0 k x0 (x3 ++ [x6]) x4 (wrap64 (x5+1))) else (none)))
end
def r6_numbered.f (k:Nat) (l0:List Int):Option (List Int):=r6_numbered.l0 k l0 ([]:List Int) 0 0
theorem r6_numbered.calls (k:Nat) (A0:Option Addr) (c0:Nat) (l0:List Int) (r:List Int) (w:World) (hr0:Kd.C (Kd.int .i64) w A0 l0.length l0) (hc0:l0.length≤c0) (h:r6_numbered.f k l0=some r) :
  Calls Tra.prog 55 #[.slice A0 l0.length c0] w fun e w'=>∃ v0_:Value,e=.returned (v0_)∧Kd.R (Kd.int .i64) 3 w' w.heap.size (fun _=>True) v0_ r∧Below w.heap.size w w':=by
 have HR0:=As0.mk hr0;have HC0:=As0.mk hc0;clear hr0 hc0;have HB:=As0.mk (Below.refl w.heap.size w);have H:(r6_numbered.l0 k l0 ([]:List Int) 0 0)=some r:=h;clear h;have H':=As0.mk H;clear H;go_enter Tra.func55,Tra.ntmps55
 go_wp2
 repeat (go_quiet (fail);try go_wp2)
 go_loopg [3,4,5] k (fun kq v3 v4 v5 w'=>∃ (x3_1:List Int) (x4_1:Int) (x5_1:Int),v4=.int .i64 x4_1∧v5=.int .i64 x5_1∧As0 (r6_numbered.l0 kq l0 x3_1 x4_1 x5_1=some r)∧As0 (kq≤k)∧As0 (Kd.R (Kd.int .i64) 3 w' w.heap.size (fun _=>True) v3 x3_1)∧As0 (Below w.heap.size w w'))
 case atStart=>exact ⟨(([]:List Int)),(0),(0),(by first|rfl|(simp;done)|(simp [*];done)),(by first|rfl|(simp;done)|(simp [*];done)),H',⟨zLe _⟩,⟨by first|exact Kd.R_nil _ _ _ _ _|exact Kd.N_nil _ _ _ _ _|exact Kd.V_nil _ _ _ _ _|exact Kd.Q_nil _ _ _ _ _|exact Kd.S_nil _ _ _ _ _⟩,⟨by repeat (with_reducible first|exact HB.out|apply y01|apply y00|apply y02)⟩⟩
 case round =>
  clear H';obtain ⟨x3_1,x4_1,x5_1,rfl,rfl,HA,HK1,HO_3,HB⟩:=hrel;cases gk with
  |zero=>exact absurd HA.out (by simp [r6_numbered.l0])
  |succ k1 =>
   have H:=HA.out;clear HA;simp only [r6_numbered.l0] at H
   by_cases c2:x5_1<(l0.length:Int)
   ·rw [if_pos c2] at H
    have c2b0:decide (x5_1<(l0.length:Int))=true:=zDt c2;clear c2;have H':=As0.mk H;clear H;go_wp2
    repeat (go_quiet (fail);try go_wp2)
    go_loopg [6,7] k1 (fun kq v6 v7 w'=>∃ (x6_2:Int) (x7_2:Int),v6=.int .i64 x6_2∧v7=.int .i64 x7_2∧As0 (r6_numbered.l1 kq l0 x3_1 x4_1 x5_1 x6_2 x7_2=some r)∧As0 (kq≤k1)∧As0 (Kd.R (Kd.int .i64) 3 w' w.heap.size (fun _=>True) u3 x3_1)∧As0 (Below w.heap.size w w'))
    case atStart=>exact ⟨((-1)),(0),(by first|rfl|(simp;done)|(simp [*];done)),(by first|rfl|(simp;done)|(simp [*];done)),H',⟨zLe _⟩,⟨by (with_reducible repeat (first|apply Kd.R_alloc|apply Kd.R_drewN|apply Kd.R_drew));exact HO_3.out⟩,⟨by repeat (with_reducible first|exact HB.out|apply y01|apply y00|apply y02)⟩⟩
    case round =>
     clear H'
     try clear c2
     try clear c2b0
     try clear p2
     obtain ⟨x6_2,x7_2,rfl,rfl,HA,HK2,HO_3,HB⟩:=hrel;cases gk with
     |zero=>exact absurd HA.out (by simp [r6_numbered.l1])
     |succ k2 =>
      have H:=HA.out;clear HA;simp only [r6_numbered.l1] at H;have HC3:=As0.mk H;clear H;go_upto_region 8 with (fail)
      repeat (go_quiet (fail);go_upto_region 8 with (fail))
      go_cut [20] (fun v20 wc=>∃ (kq:Nat) (x20_2:Bool),v20=.bool x20_2∧As0 (r6_numbered.j2 kq l0 x3_1 x4_1 x5_1 x6_2 x7_2 x20_2=some r)∧As0 (kq≤k2)∧As0 (Kd.R (Kd.int .i64) 3 wc w.heap.size (fun _=>True) u3 x3_1)∧As0 (Below w.heap.size w wc))
      case first =>
       have H:=HC3.out;clear HC3
       by_cases c4:x7_2<x5_1
       ·rw [if_pos c4] at H
        have c4b0:decide (x7_2<x5_1)=true:=zDt c4;clear c4
        (first|rw [c4b0]|(simp only [y0r,y0w];rw [c4b0])|skip)
        have H':=As0.mk H;clear H;go_wp2
        repeat (go_quiet (fail);try go_wp2)
        go_meet
        case rel=>exact ⟨_,(decide (x6_2<0)),(by first|rfl|(simp;done)|(simp [*];done)),H',⟨by have:=HK1.out;have:=HK2.out;first|omega|exact zLe _⟩,⟨by (with_reducible repeat (first|apply Kd.R_alloc|apply Kd.R_drewN|apply Kd.R_drew));exact HO_3.out⟩,⟨by repeat (with_reducible first|exact HB.out|apply y01|apply y00|apply y02)⟩⟩
       ·rw [if_neg c4] at H
        have c4b0:decide (x7_2<x5_1)=false:=zDf c4;clear c4
        (first|rw [c4b0]|(simp only [y0r,y0w];rw [c4b0])|skip)
        have H':=As0.mk H;clear H;go_wp2
        repeat (go_quiet (fail);try go_wp2)
        go_meet
        case rel=>exact ⟨_,(false),(by first|rfl|(simp;done)|(simp [*];done)),H',⟨by have:=HK1.out;have:=HK2.out;first|omega|exact zLe _⟩,⟨by (with_reducible repeat (first|apply Kd.R_alloc|apply Kd.R_drewN|apply Kd.R_drew));exact HO_3.out⟩,⟨by repeat (with_reducible first|exact HB.out|apply y01|apply y00|apply y02)⟩⟩
      case rest =>
       clear HC3
       try clear c2
       try clear c2b0
       try clear p2
       try clear c4
       try clear c4b0
       try clear p2
       obtain ⟨kq,x20_2,rfl,HA,HJ2,HO_3,HB⟩:=hcut;cases kq with
       |zero=>exact absurd HA.out (by simp [r6_numbered.j2])
       |succ kj2 =>
        have H:=HA.out;clear HA;simp only [r6_numbered.j2] at H
        by_cases c5:x20_2=true
        ·subst c5
         have H1:(if 0≤x7_2 then (if x7_2<(l0.length:Int) then (if 0≤x5_1 then (if x5_1<(l0.length:Int) then (if (rd l0 x7_2)=(rd l0 x5_1) then (if x7_2<(x3_1.length:Int) then (r6_numbered.l1 kj2 l0 x3_1 x4_1 x5_1 (rd x3_1 x7_2) (wrap64 (x7_2+1))) else (none)) else (r6_numbered.l1 kj2 l0 x3_1 x4_1 x5_1 x6_2 (wrap64 (x7_2+1)))) else (none)) else (none)) else (none)) else (none))=some r:=by rw [if_pos rfl] at H;exact H
         clear H;have H:=H1;clear H1
         by_cases c6:0≤x7_2
         ·rw [if_pos c6] at H
          have c6b0:decide (0≤x7_2)=true:=zDt c6;clear c6
          by_cases c7:x7_2<(l0.length:Int)
          ·rw [if_pos c7] at H
           have c7b0:decide (x7_2<(l0.length:Int))=true:=zDt c7;clear c7
           by_cases c8:0≤x5_1
           ·rw [if_pos c8] at H
            have c8b0:decide (0≤x5_1)=true:=zDt c8;clear c8
            by_cases c9:x5_1<(l0.length:Int)
            ·rw [if_pos c9] at H
             have c9b0:decide (x5_1<(l0.length:Int))=true:=zDt c9;clear c9
             by_cases c10:(rd l0 x7_2)=(rd l0 x5_1)
             ·rw [if_pos c10] at H
              have c10b0:((rd l0 x7_2) == (rd l0 x5_1))=true:=beq_iff_eq.mpr c10;have c10b1:((rd l0 x7_2) != (rd l0 x5_1))=false:=bne_eq_false_iff_eq.mpr c10;clear c10
              by_cases c11:x7_2<(x3_1.length:Int)
              ·rw [if_pos c11] at H
               have c11b0:decide (x7_2<(x3_1.length:Int))=true:=zDt c11;clear c11;have H':=As0.mk H;clear H;have p397:0≤(x7_2:Int):=zDo (by with_reducible assumption);have q397:x7_2<(l0.length:Int):=zDo (by with_reducible assumption);obtain ⟨ad397,e397,hx397_0⟩:=Kd.at_int HR0.out x7_2 p397 q397;cases e397
               replace hx397_0:=(HB.out.cell (World.block_lt_of_cell? w _ hx397_0)).trans hx397_0;replace p397:=eq_true p397;replace q397:=eq_true q397;have p398:0≤(x5_1:Int):=zDo (by with_reducible assumption);have q398:x5_1<(l0.length:Int):=zDo (by with_reducible assumption);obtain ⟨ad398,e398,hx398_0⟩:=Kd.at_int HR0.out x5_1 p398 q398;obtain rfl:ad397=ad398:=(by injection e398)
               replace hx398_0:=(HB.out.cell (World.block_lt_of_cell? w _ hx398_0)).trans hx398_0;replace p398:=eq_true p398;replace q398:=eq_true q398;obtain ⟨Ao12,co12,eo12⟩:=Kd.R_slice HO_3.out;subst eo12;have p399:0≤(x7_2:Int):=zDo (by with_reducible assumption);have q399:x7_2<(x3_1.length:Int):=zDo (by with_reducible assumption);obtain ⟨ad399,e399,hx399_0⟩:=Kd.at_int (Kd.R_reads' HO_3.out).2.2 x7_2 p399 q399;cases e399
               replace p399:=eq_true p399;replace q399:=eq_true q399;go_wp2
               repeat (go_quiet (fail);try go_wp2)
               go_roundg kj2
               case measure=>have:=HK1.out;have:=HK2.out;have:=HJ2.out;omega
               case rel=>exact ⟨(rd x3_1 x7_2),(wrap64 (x7_2+1)),(by first|rfl|(simp;done)|(simp [*];done)),(by first|rfl|(simp;done)|(simp [*];done)),H',⟨by have:=HK1.out;have:=HK2.out;have:=HJ2.out;omega⟩,⟨by (with_reducible repeat (first|apply Kd.R_alloc|apply Kd.R_drewN|apply Kd.R_drew));exact HO_3.out⟩,⟨by repeat (with_reducible first|exact HB.out|apply y01|apply y00|apply y02)⟩⟩
              ·rw [if_neg c11] at H
               exact absurd H (by simp)
             ·rw [if_neg c10] at H
              have c10b0:((rd l0 x7_2) == (rd l0 x5_1))=false:=beq_eq_false_iff_ne.mpr c10;have c10b1:((rd l0 x7_2) != (rd l0 x5_1))=true:=bne_iff_ne.mpr c10;have H':=As0.mk H;clear H;have p397:0≤(x7_2:Int):=zDo (by with_reducible assumption);have q397:x7_2<(l0.length:Int):=zDo (by with_reducible assumption);obtain ⟨ad397,e397,hx397_0⟩:=Kd.at_int HR0.out x7_2 p397 q397;cases e397
              replace hx397_0:=(HB.out.cell (World.block_lt_of_cell? w _ hx397_0)).trans hx397_0;replace p397:=eq_true p397;replace q397:=eq_true q397;have p398:0≤(x5_1:Int):=zDo (by with_reducible assumption);have q398:x5_1<(l0.length:Int):=zDo (by with_reducible assumption);obtain ⟨ad398,e398,hx398_0⟩:=Kd.at_int HR0.out x5_1 p398 q398;obtain rfl:ad397=ad398:=(by injection e398)
              replace hx398_0:=(HB.out.cell (World.block_lt_of_cell? w _ hx398_0)).trans hx398_0;replace p398:=eq_true p398;replace q398:=eq_true q398;go_wp2
              repeat (go_quiet (fail);try go_wp2)
              go_roundg kj2
              case measure=>have:=HK1.out;have:=HK2.out;have:=HJ2.out;omega
              case rel=>exact ⟨(x6_2),(wrap64 (x7_2+1)),(by first|rfl|(simp;done)|(simp [*];done)),(by first|rfl|(simp;done)|(simp [*];done)),H',⟨by have:=HK1.out;have:=HK2.out;have:=HJ2.out;omega⟩,⟨by (with_reducible repeat (first|apply Kd.R_alloc|apply Kd.R_drewN|apply Kd.R_drew));exact HO_3.out⟩,⟨by repeat (with_reducible first|exact HB.out|apply y01|apply y00|apply y02)⟩⟩
            ·rw [if_neg c9] at H
             exact absurd H (by simp)
           ·rw [if_neg c8] at H
            exact absurd H (by simp)
          ·rw [if_neg c7] at H
           exact absurd H (by simp)
         ·rw [if_neg c6] at H
          exact absurd H (by simp)
        ·replace c5:=Bool.eq_false_iff.mpr c5
         subst c5;have H1:(if x6_2<0 then (if x3_1.length<17592186044416 then (r6_numbered.l0 kj2 l0 (x3_1 ++ [x4_1]) (wrap64 (x4_1+1)) (wrap64 (x5_1+1))) else (none)) else (if x3_1.length<17592186044416 then (r6_numbered.l0 kj2 l0 (x3_1 ++ [x6_2]) x4_1 (wrap64 (x5_1+1))) else (none)))=some r:=by rw [if_neg (show ¬ (false=true) by decide)] at H;exact H
         clear H;have H:=H1;clear H1
         by_cases c13:x6_2<0
         ·rw [if_pos c13] at H
          have c13b0:decide (x6_2<0)=true:=zDt c13;clear c13
          by_cases c14:x3_1.length<17592186044416
          ·rw [if_pos c14] at H
           have LMc14:=As0.mk c14;clear c14;obtain ⟨y400,hy400⟩:∃ y_:List Int,y_=(x3_1 ++ [x4_1]):=⟨_,rfl⟩
           replace H:(r6_numbered.l0 kj2 l0 y400 (wrap64 (x4_1+1)) (wrap64 (x5_1+1)))=some r:=by first|(rw [hy400];with_reducible exact H)|(have H2_:=(Option.bind_some _ _).symm.trans H;rw [hy400];with_reducible exact H2_)|(have H2_:=(Option.bind_some _ _).symm.trans H;with_reducible exact H2_)|with_reducible exact H|(rw [hy400];exact H)|exact H
           have Ny400:=As0.mk hy400;clear hy400;have H':=As0.mk H;clear H;go_wp2_with (first|((with_reducible refine y0p (b:=.append) (xs:=#[.tmp 41,.tmp 43]) rfl ?_);at_builtin;refine Kd.R_append (Kd.int .i64) (w0:=w) w.heap.size rfl (.tmp 41) (.tmp 43) 29 3 (.int .i64 0) 8 rfl Tra.underlying29 info3 rfl (by decide) (by omega) u3 x3_1 x4_1 [.int .i64 x4_1] (fun _=>True) (fun _=>False) rfl rfl ?aP (fun _ hk=>hk.elim) ?aF ?aO ?aB ?aS ?aL ?_;(case aP=>exact rfl);(case aB=>exact (by repeat (with_reducible first|exact HB.out|apply y01|apply y00|apply y02)));(case aF=>exact (fun _ _=>trivial));(case aO=>exact (by (with_reducible repeat (first|apply Kd.R_alloc|apply Kd.R_drewN|apply Kd.R_drew));exact HO_3.out));(case aS=>exact (y05 (by repeat (with_reducible first|exact HB.out|apply y01|apply y00|apply y02))));(case aL=>have:=LMc14.out;omega);intro v401 w15 ho hb hg hat;rw [← Ny400.out] at ho;have n0_:=As0.mk (hb);have n1_:=As0.mk (ho);clear HB;clear HO_3;have HB:=n0_;have HO402:=n1_;clear n0_ n1_;clear ho hb hg hat))
           repeat (go_quiet (first|((with_reducible refine y0p (b:=.append) (xs:=#[.tmp 41,.tmp 43]) rfl ?_);at_builtin;refine Kd.R_append (Kd.int .i64) (w0:=w) w.heap.size rfl (.tmp 41) (.tmp 43) 29 3 (.int .i64 0) 8 rfl Tra.underlying29 info3 rfl (by decide) (by omega) u3 x3_1 x4_1 [.int .i64 x4_1] (fun _=>True) (fun _=>False) rfl rfl ?aP (fun _ hk=>hk.elim) ?aF ?aO ?aB ?aS ?aL ?_;(case aP=>exact rfl);(case aB=>exact (by repeat (with_reducible first|exact HB.out|apply y01|apply y00|apply y02)));(case aF=>exact (fun _ _=>trivial));(case aO=>exact (by (with_reducible repeat (first|apply Kd.R_alloc|apply Kd.R_drewN|apply Kd.R_drew));exact HO_3.out));(case aS=>exact (y05 (by repeat (with_reducible first|exact HB.out|apply y01|apply y00|apply y02))));(case aL=>have:=LMc14.out;omega);intro v401 w15 ho hb hg hat;rw [← Ny400.out] at ho;have n0_:=As0.mk (hb);have n1_:=As0.mk (ho);clear HB;clear HO_3;have HB:=n0_;have HO402:=n1_;clear n0_ n1_;clear ho hb hg hat));try go_wp2_with (first|((with_reducible refine y0p (b:=.append) (xs:=#[.tmp 41,.tmp 43]) rfl ?_);at_builtin;refine Kd.R_append (Kd.int .i64) (w0:=w) w.heap.size rfl (.tmp 41) (.tmp 43) 29 3 (.int .i64 0) 8 rfl Tra.underlying29 info3 rfl (by decide) (by omega) u3 x3_1 x4_1 [.int .i64 x4_1] (fun _=>True) (fun _=>False) rfl rfl ?aP (fun _ hk=>hk.elim) ?aF ?aO ?aB ?aS ?aL ?_;(case aP=>exact rfl);(case aB=>exact (by repeat (with_reducible first|exact HB.out|apply y01|apply y00|apply y02)));(case aF=>exact (fun _ _=>trivial));(case aO=>exact (by (with_reducible repeat (first|apply Kd.R_alloc|apply Kd.R_drewN|apply Kd.R_drew));exact HO_3.out));(case aS=>exact (y05 (by repeat (with_reducible first|exact HB.out|apply y01|apply y00|apply y02))));(case aL=>have:=LMc14.out;omega);intro v401 w15 ho hb hg hat;rw [← Ny400.out] at ho;have n0_:=As0.mk (hb);have n1_:=As0.mk (ho);clear HB;clear HO_3;have HB:=n0_;have HO402:=n1_;clear n0_ n1_;clear ho hb hg hat)))
           go_roundg kj2
           case measure=>have:=HK1.out;have:=HK2.out;have:=HJ2.out;omega
           case rel=>exact ⟨(y400),(wrap64 (x4_1+1)),(wrap64 (x5_1+1)),(by first|rfl|(simp;done)|(simp [*];done)),(by first|rfl|(simp;done)|(simp [*];done)),H',⟨by have:=HK1.out;have:=HK2.out;have:=HJ2.out;omega⟩,⟨by (with_reducible repeat (first|apply Kd.R_alloc|apply Kd.R_drewN|apply Kd.R_drew));exact HO402.out⟩,⟨by repeat (with_reducible first|exact HB.out|apply y01|apply y00|apply y02)⟩⟩
          ·rw [if_neg c14] at H
           exact absurd H (by simp)
         ·rw [if_neg c13] at H
          have c13b0:decide (x6_2<0)=false:=zDf c13;clear c13
          by_cases c16:x3_1.length<17592186044416
          ·rw [if_pos c16] at H
           have LMc16:=As0.mk c16;clear c16;obtain ⟨y403,hy403⟩:∃ y_:List Int,y_=(x3_1 ++ [x6_2]):=⟨_,rfl⟩
           replace H:(r6_numbered.l0 kj2 l0 y403 x4_1 (wrap64 (x5_1+1)))=some r:=by first|(rw [hy403];with_reducible exact H)|(have H2_:=(Option.bind_some _ _).symm.trans H;rw [hy403];with_reducible exact H2_)|(have H2_:=(Option.bind_some _ _).symm.trans H;with_reducible exact H2_)|with_reducible exact H|(rw [hy403];exact H)|exact H
           have Ny403:=As0.mk hy403;clear hy403;have H':=As0.mk H;clear H;go_wp2_with (first|((with_reducible refine y0p (b:=.append) (xs:=#[.tmp 41,.tmp 43]) rfl ?_);at_builtin;refine Kd.R_append (Kd.int .i64) (w0:=w) w.heap.size rfl (.tmp 41) (.tmp 43) 29 3 (.int .i64 0) 8 rfl Tra.underlying29 info3 rfl (by decide) (by omega) u3 x3_1 x6_2 [.int .i64 x6_2] (fun _=>True) (fun _=>False) rfl rfl ?aP (fun _ hk=>hk.elim) ?aF ?aO ?aB ?aS ?aL ?_;(case aP=>exact rfl);(case aB=>exact (by repeat (with_reducible first|exact HB.out|apply y01|apply y00|apply y02)));(case aF=>exact (fun _ _=>trivial));(case aO=>exact (by (with_reducible repeat (first|apply Kd.R_alloc|apply Kd.R_drewN|apply Kd.R_drew));exact HO_3.out));(case aS=>exact (y05 (by repeat (with_reducible first|exact HB.out|apply y01|apply y00|apply y02))));(case aL=>have:=LMc16.out;omega);intro v404 w17 ho hb hg hat;rw [← Ny403.out] at ho;have n0_:=As0.mk (hb);have n1_:=As0.mk (ho);clear HB;clear HO_3;have HB:=n0_;have HO405:=n1_;clear n0_ n1_;clear ho hb hg hat))
           repeat (go_quiet (first|((with_reducible refine y0p (b:=.append) (xs:=#[.tmp 41,.tmp 43]) rfl ?_);at_builtin;refine Kd.R_append (Kd.int .i64) (w0:=w) w.heap.size rfl (.tmp 41) (.tmp 43) 29 3 (.int .i64 0) 8 rfl Tra.underlying29 info3 rfl (by decide) (by omega) u3 x3_1 x6_2 [.int .i64 x6_2] (fun _=>True) (fun _=>False) rfl rfl ?aP (fun _ hk=>hk.elim) ?aF ?aO ?aB ?aS ?aL ?_;(case aP=>exact rfl);(case aB=>exact (by repeat (with_reducible first|exact HB.out|apply y01|apply y00|apply y02)));(case aF=>exact (fun _ _=>trivial));(case aO=>exact (by (with_reducible repeat (first|apply Kd.R_alloc|apply Kd.R_drewN|apply Kd.R_drew));exact HO_3.out));(case aS=>exact (y05 (by repeat (with_reducible first|exact HB.out|apply y01|apply y00|apply y02))));(case aL=>have:=LMc16.out;omega);intro v404 w17 ho hb hg hat;rw [← Ny403.out] at ho;have n0_:=As0.mk (hb);have n1_:=As0.mk (ho);clear HB;clear HO_3;have HB:=n0_;have HO405:=n1_;clear n0_ n1_;clear ho hb hg hat));try go_wp2_with (first|((with_reducible refine y0p (b:=.append) (xs:=#[.tmp 41,.tmp 43]) rfl ?_);at_builtin;refine Kd.R_append (Kd.int .i64) (w0:=w) w.heap.size rfl (.tmp 41) (.tmp 43) 29 3 (.int .i64 0) 8 rfl Tra.underlying29 info3 rfl (by decide) (by omega) u3 x3_1 x6_2 [.int .i64 x6_2] (fun _=>True) (fun _=>False) rfl rfl ?aP (fun _ hk=>hk.elim) ?aF ?aO ?aB ?aS ?aL ?_;(case aP=>exact rfl);(case aB=>exact (by repeat (with_reducible first|exact HB.out|apply y01|apply y00|apply y02)));(case aF=>exact (fun _ _=>trivial));(case aO=>exact (by (with_reducible repeat (first|apply Kd.R_alloc|apply Kd.R_drewN|apply Kd.R_drew));exact HO_3.out));(case aS=>exact (y05 (by repeat (with_reducible first|exact HB.out|apply y01|apply y00|apply y02))));(case aL=>have:=LMc16.out;omega);intro v404 w17 ho hb hg hat;rw [← Ny403.out] at ho;have n0_:=As0.mk (hb);have n1_:=As0.mk (ho);clear HB;clear HO_3;have HB:=n0_;have HO405:=n1_;clear n0_ n1_;clear ho hb hg hat)))
           go_roundg kj2
           case measure=>have:=HK1.out;have:=HK2.out;have:=HJ2.out;omega
           case rel=>exact ⟨(y403),(x4_1),(wrap64 (x5_1+1)),(by first|rfl|(simp;done)|(simp [*];done)),(by first|rfl|(simp;done)|(simp [*];done)),H',⟨by have:=HK1.out;have:=HK2.out;have:=HJ2.out;omega⟩,⟨by (with_reducible repeat (first|apply Kd.R_alloc|apply Kd.R_drewN|apply Kd.R_drew));exact HO405.out⟩,⟨by repeat (with_reducible first|exact HB.out|apply y01|apply y00|apply y02)⟩⟩
          ·rw [if_neg c16] at H
           exact absurd H (by simp)
   ·rw [if_neg c2] at H
    have c2b0:decide (x5_1<(l0.length:Int))=false:=zDf c2;clear c2;obtain rfl:=zSi H;go_wp2
    repeat (go_quiet (fail);try go_wp2)
    go_ret
    exact ⟨_,by first|rfl|(simp [y0a,y09]<;>rfl)|(simp [*,y0a,y09]<;>rfl),by (with_reducible repeat (first|apply Kd.R_alloc|apply Kd.R_drewN|apply Kd.R_drew));exact HO_3.out,by repeat (with_reducible first|exact HB.out|apply y01|apply y00|apply y02)⟩
end Go.Proofs.Ytdhgeondbnpeoaa.P
namespace Go.Proofs.Ytdhgeondbnpeoaa.P
open Go.RowKit Go.Proofs.Yw.Wd Go.Proofs.Yw.La Go.Proofs.Yw.Mo
attribute [local go_sem] y13 y11 y18 y17 y0t y0s y12 y10
mutual
def r6_Between.l0:Nat->List Int->List Int->Int->Option (List Int × Int)
 |0,_,_,_=>none
 |k+1,x0,x7,x8=>if x8<(x0.length:Int) then (if x7.length<17592186044416 then (r6_Between.l1 k x0 (x7 ++ [x8]) x8 0) else (none)) else ((r6_numbered.f k x7).bind fun t413=>(some (t413,0)))
def r6_Between.l1:Nat->List Int->List Int->Int->Int->Option (List Int × Int)
 |0,_,_,_,_=>none
 |k+1,x0,x7,x8,x9=>if x9<x8 then (r6_Between.l2 k x0 x7 x8 x9 true 0) else (r6_Between.l0 k x0 x7 (wrap64 (x8+1)))
def r6_Between.l2:Nat->List Int->List Int->Int->Int->Bool->Int->Option (List Int × Int)
 |0,_,_,_,_,_,_=>none
 |k+1,x0,x7,x8,x9,x10,x11=>if x11<(x0.length:Int) then (r6_Between.l3 k x0 x7 x8 x9 x10 x11 0) else (if x10=true then (if 0≤x8 then (if x8<(x7.length:Int) then (if (rd x7 x8)=x8 then (if 0≤x9 then (if x9<(x7.length:Int) then (r6_Between.l1 k x0 (x7.set (x8:Int).toNat (rd x7 x9)) x8 (wrap64 (x9+1))) else (none)) else (none)) else (r6_Between.l1 k x0 x7 x8 (wrap64 (x9+1)))) else (none)) else (none)) else (r6_Between.l1 k x0 x7 x8 (wrap64 (x9+1))))
def r6_Between.l3:Nat->List Int->List Int->Int->Int->Bool->Int->Int->Option (List Int × Int)
 |0,_,_,_,_,_,_,_=>none
 |k+1,x0,x7,x8,x9,x10,x11,x12=>if x12<(x0.length:Int) then (if x10=true then (if 0≤x11 then (if x11<(x0.length:Int) then (if 0≤x12 then (if (rd x0 x11)=(rd x0 x12) then (if x9<x11 then (if x11≤x8 then (if x12≤x9 then (r6_Between.l3 k x0 x7 x8 x9 (!true) x11 (wrap64 (x12+1))) else (r6_Between.l3 k x0 x7 x8 x9 (!(decide (x12 > x8))) x11 (wrap64 (x12+1)))) else (r6_Between.l3 k x0 x7 x8 x9 (!false) x11 (wrap64 (x12+1)))) else (r6_Between.l3 k x0 x7 x8 x9 (!false) x11 (wrap64 (x12+1)))) else (r6_Between.l3 k x0 x7 x8 x9 (!false) x11 (wrap64 (x12+1)))) else (none)) else (none)) else (none)) else (r6_Between.l3 k x0 x7 x8 x9 false x11 (wrap64 (x12+1)))) else (r6_Between.l2 k x0 x7 x8 x9 x10 (wrap64 (x11+1)))
end
def r6_Between.f (k:Nat) (l0:List Int):Option (List Int × Int):=(r6_Crossed.f k l0).bind fun bt406=>(if bt406.2.2.2.2.2=0 then (if bt406.2.2.2.2.1=true then (some (([]:List Int),9)) else (r6_Between.l0 k l0 ([]:List Int) 0)) else (some (([]:List Int),bt406.2.2.2.2.2)))
theorem r6_Between.calls (k:Nat) (A0:Option Addr) (c0:Nat) (l0:List Int) (r1:List Int) (r2:Int) (w:World) (hr0:Kd.C (Kd.int .i64) w A0 l0.length l0) (hc0:l0.length≤c0) (h:r6_Between.f k l0=some (r1,r2)) :
  Calls Tra.prog 26 #[.slice A0 l0.length c0] w fun e w'=>∃ v0_:Value,e=.returned (.tuple #[v0_,.int .i64 r2])∧Kd.R (Kd.int .i64) 3 w' w.heap.size (fun _=>True) v0_ r1∧Below w.heap.size w w':=by
 have hu31:=Tra.underlying31;have HR0:=As0.mk hr0;have HC0:=As0.mk hc0;clear hr0 hc0;have HB:=As0.mk (Below.refl w.heap.size w);have H:((r6_Crossed.f k l0).bind fun bt406=>(if bt406.2.2.2.2.2=0 then (if bt406.2.2.2.2.1=true then (some (([]:List Int),9)) else (r6_Between.l0 k l0 ([]:List Int) 0)) else (some (([]:List Int),bt406.2.2.2.2.2))))=some (r1,r2):=h;clear h;replace H:=Option.bind_eq_some_iff.mp H;obtain ⟨⟨t406,t407,t408,t409,t410,t411⟩,A20,H⟩:=H;replace H:(if t411=0 then (if t410=true then (some (([]:List Int),9)) else (r6_Between.l0 k l0 ([]:List Int) 0)) else (some (([]:List Int),t411)))=some (r1,r2):=H;have A2:=As0.mk A20;clear A20
 by_cases c3:t411=0
 ·rw [if_pos c3] at H
  have c3b0:(t411 == 0)=true:=beq_iff_eq.mpr c3;have c3b1:(t411 != 0)=false:=bne_eq_false_iff_eq.mpr c3;clear c3
  by_cases c4:t410=true
  ·subst c4
   have H1:(some (([]:List Int),9))=some (r1,r2):=by rw [if_pos rfl] at H;exact H
   clear H;have H:=H1;clear H1;simp only [Option.some.injEq,Prod.mk.injEq] at H;obtain ⟨rfl,rfl⟩:=H;go_enter Tra.func26,Tra.ntmps26
   go_wp2_with (first|(go_at_call 24;(with_reducible refine (r6_Crossed.calls k _ _ l0 t406 t407 t408 t409 true t411 _ ?side1 ?side2 A2.out).mono ?_);(case side1=>repeat (first|exact HR0.out|(with_reducible refine Kd.C_alloc ?_ _)|(with_reducible refine Kd.C_drewN ?_ _)|(with_reducible refine Kd.C_drew ?_)));(case side2=>exact HC0.out);rintro e w5 ⟨rfl,hb⟩;have n0_:=As0.mk (y07 (by repeat (with_reducible first|exact HB.out|apply y01|apply y00|apply y02)) hb);clear HB;have HB:=n0_;clear n0_;(try clear hb);(try clear hb2);(try clear hk);(try clear hi))|((with_reducible refine y0i (N:=4) rfl ?_);refine y0q ?hg (N:=4) ?hd (cs:=#[.int .i64 0,.int .i64 0,.int .i64 0,.int .i64 0]) (t:=31) ?hr ?_;(case hd=>rfl);(case hg=>rfl);(case hr=>first|(go_simp;done)|(go_simp;rfl));intro gb412 hg w6 hbox hb;have n0_:=As0.mk (y07 (by repeat (with_reducible first|exact HB.out|apply y01|apply y00|apply y02)) hb);have n1_:=As0.mk (hbox);have n2_:=As0.mk ((by rw [hg];exact (y05 (by repeat (with_reducible first|exact HB.out|apply y01|apply y00|apply y02))):w.heap.size≤gb412));have n3_:=As0.mk ((by rw [hg];exact (y05 (by repeat (with_reducible first|exact HB.out|apply y01|apply y00|apply y02))):w.heap.size≤gb412));clear HB;have HB:=n0_;have BK412:=n1_;have GW412:=n2_;have GE412:=n3_;clear n0_ n1_ n2_ n3_;clear hb hbox hg;have hcz7_0:w6.cell? ⟨gb412,0,none⟩=some (.int .i64 0):=(y08 BK412.out 0).trans rfl;have hcz7_1:w6.cell? ⟨gb412,1,none⟩=some (.int .i64 0):=(y08 BK412.out 1).trans rfl;have hcz7_2:w6.cell? ⟨gb412,2,none⟩=some (.int .i64 0):=(y08 BK412.out 2).trans rfl;have hcz7_3:w6.cell? ⟨gb412,3,none⟩=some (.int .i64 0):=(y08 BK412.out 3).trans rfl;have hfz7_0:=y06 BK412.out 0;have hfz7_1:=y06 BK412.out 1;have hfz7_2:=y06 BK412.out 2;have hfz7_3:=y06 BK412.out 3))
   repeat (go_quiet (first|(go_at_call 24;(with_reducible refine (r6_Crossed.calls k _ _ l0 t406 t407 t408 t409 true t411 _ ?side1 ?side2 A2.out).mono ?_);(case side1=>repeat (first|exact HR0.out|(with_reducible refine Kd.C_alloc ?_ _)|(with_reducible refine Kd.C_drewN ?_ _)|(with_reducible refine Kd.C_drew ?_)));(case side2=>exact HC0.out);rintro e w5 ⟨rfl,hb⟩;have n0_:=As0.mk (y07 (by repeat (with_reducible first|exact HB.out|apply y01|apply y00|apply y02)) hb);clear HB;have HB:=n0_;clear n0_;(try clear hb);(try clear hb2);(try clear hk);(try clear hi))|((with_reducible refine y0i (N:=4) rfl ?_);refine y0q ?hg (N:=4) ?hd (cs:=#[.int .i64 0,.int .i64 0,.int .i64 0,.int .i64 0]) (t:=31) ?hr ?_;(case hd=>rfl);(case hg=>rfl);(case hr=>first|(go_simp;done)|(go_simp;rfl));intro gb412 hg w6 hbox hb;have n0_:=As0.mk (y07 (by repeat (with_reducible first|exact HB.out|apply y01|apply y00|apply y02)) hb);have n1_:=As0.mk (hbox);have n2_:=As0.mk ((by rw [hg];exact (y05 (by repeat (with_reducible first|exact HB.out|apply y01|apply y00|apply y02))):w.heap.size≤gb412));have n3_:=As0.mk ((by rw [hg];exact (y05 (by repeat (with_reducible first|exact HB.out|apply y01|apply y00|apply y02))):w.heap.size≤gb412));clear HB;have HB:=n0_;have BK412:=n1_;have GW412:=n2_;have GE412:=n3_;clear n0_ n1_ n2_ n3_;clear hb hbox hg;have hcz7_0:w6.cell? ⟨gb412,0,none⟩=some (.int .i64 0):=(y08 BK412.out 0).trans rfl;have hcz7_1:w6.cell? ⟨gb412,1,none⟩=some (.int .i64 0):=(y08 BK412.out 1).trans rfl;have hcz7_2:w6.cell? ⟨gb412,2,none⟩=some (.int .i64 0):=(y08 BK412.out 2).trans rfl;have hcz7_3:w6.cell? ⟨gb412,3,none⟩=some (.int .i64 0):=(y08 BK412.out 3).trans rfl;have hfz7_0:=y06 BK412.out 0;have hfz7_1:=y06 BK412.out 1;have hfz7_2:=y06 BK412.out 2;have hfz7_3:=y06 BK412.out 3));try go_wp2_with (first|(go_at_call 24;(with_reducible refine (r6_Crossed.calls k _ _ l0 t406 t407 t408 t409 true t411 _ ?side1 ?side2 A2.out).mono ?_);(case side1=>repeat (first|exact HR0.out|(with_reducible refine Kd.C_alloc ?_ _)|(with_reducible refine Kd.C_drewN ?_ _)|(with_reducible refine Kd.C_drew ?_)));(case side2=>exact HC0.out);rintro e w5 ⟨rfl,hb⟩;have n0_:=As0.mk (y07 (by repeat (with_reducible first|exact HB.out|apply y01|apply y00|apply y02)) hb);clear HB;have HB:=n0_;clear n0_;(try clear hb);(try clear hb2);(try clear hk);(try clear hi))|((with_reducible refine y0i (N:=4) rfl ?_);refine y0q ?hg (N:=4) ?hd (cs:=#[.int .i64 0,.int .i64 0,.int .i64 0,.int .i64 0]) (t:=31) ?hr ?_;(case hd=>rfl);(case hg=>rfl);(case hr=>first|(go_simp;done)|(go_simp;rfl));intro gb412 hg w6 hbox hb;have n0_:=As0.mk (y07 (by repeat (with_reducible first|exact HB.out|apply y01|apply y00|apply y02)) hb);have n1_:=As0.mk (hbox);have n2_:=As0.mk ((by rw [hg];exact (y05 (by repeat (with_reducible first|exact HB.out|apply y01|apply y00|apply y02))):w.heap.size≤gb412));have n3_:=As0.mk ((by rw [hg];exact (y05 (by repeat (with_reducible first|exact HB.out|apply y01|apply y00|apply y02))):w.heap.size≤gb412));clear HB;have HB:=n0_;have BK412:=n1_;have GW412:=n2_;have GE412:=n3_;clear n0_ n1_ n2_ n3_;clear hb hbox hg;have hcz7_0:w6.cell? ⟨gb412,0,none⟩=some (.int .i64 0):=(y08 BK412.out 0).trans rfl;have hcz7_1:w6.cell? ⟨gb412,1,none⟩=some (.int .i64 0):=(y08 BK412.out 1).trans rfl;have hcz7_2:w6.cell? ⟨gb412,2,none⟩=some (.int .i64 0):=(y08 BK412.out 2).trans rfl;have hcz7_3:w6.cell? ⟨gb412,3,none⟩=some (.int .i64 0):=(y08 BK412.out 3).trans rfl;have hfz7_0:=y06 BK412.out 0;have hfz7_1:=y06 BK412.out 1;have hfz7_2:=y06 BK412.out 2;have hfz7_3:=y06 BK412.out 3)))
   go_ret2
   exact ⟨_,by first|rfl|(simp [y0a,y09]<;>rfl)|(simp [*,y0a,y09]<;>rfl),by first|exact Kd.R_nil _ _ _ _ _|exact Kd.N_nil _ _ _ _ _|exact Kd.V_nil _ _ _ _ _|exact Kd.Q_nil _ _ _ _ _|exact Kd.S_nil _ _ _ _ _,by repeat (with_reducible first|exact HB.out|apply y01|apply y00|apply y02|refine y04 ?_ GE412.out)⟩
  ·replace c4:=Bool.eq_false_iff.mpr c4
   subst c4;have H1:(r6_Between.l0 k l0 ([]:List Int) 0)=some (r1,r2):=by rw [if_neg (show ¬ (false=true) by decide)] at H;exact H
   clear H;have H:=H1;clear H1;have H':=As0.mk H;clear H;go_enter Tra.func26,Tra.ntmps26
   go_wp2_with (first|(go_at_call 24;(with_reducible refine (r6_Crossed.calls k _ _ l0 t406 t407 t408 t409 false t411 _ ?side1 ?side2 A2.out).mono ?_);(case side1=>repeat (first|exact HR0.out|(with_reducible refine Kd.C_alloc ?_ _)|(with_reducible refine Kd.C_drewN ?_ _)|(with_reducible refine Kd.C_drew ?_)));(case side2=>exact HC0.out);rintro e w8 ⟨rfl,hb⟩;have n0_:=As0.mk (y07 (by repeat (with_reducible first|exact HB.out|apply y01|apply y00|apply y02)) hb);clear HB;have HB:=n0_;clear n0_;(try clear hb);(try clear hb2);(try clear hk);(try clear hi))|((with_reducible refine y0i (N:=4) rfl ?_);refine y0q ?hg (N:=4) ?hd (cs:=#[.int .i64 0,.int .i64 0,.int .i64 0,.int .i64 0]) (t:=31) ?hr ?_;(case hd=>rfl);(case hg=>rfl);(case hr=>first|(go_simp;done)|(go_simp;rfl));intro gb412 hg w9 hbox hb;have n0_:=As0.mk (y07 (by repeat (with_reducible first|exact HB.out|apply y01|apply y00|apply y02)) hb);have n1_:=As0.mk (hbox);have n2_:=As0.mk ((by rw [hg];exact (y05 (by repeat (with_reducible first|exact HB.out|apply y01|apply y00|apply y02))):w.heap.size≤gb412));have n3_:=As0.mk ((by rw [hg];exact (y05 (by repeat (with_reducible first|exact HB.out|apply y01|apply y00|apply y02))):w.heap.size≤gb412));clear HB;have HB:=n0_;have BK412:=n1_;have GW412:=n2_;have GE412:=n3_;clear n0_ n1_ n2_ n3_;clear hb hbox hg;have hcz10_0:w9.cell? ⟨gb412,0,none⟩=some (.int .i64 0):=(y08 BK412.out 0).trans rfl;have hcz10_1:w9.cell? ⟨gb412,1,none⟩=some (.int .i64 0):=(y08 BK412.out 1).trans rfl;have hcz10_2:w9.cell? ⟨gb412,2,none⟩=some (.int .i64 0):=(y08 BK412.out 2).trans rfl;have hcz10_3:w9.cell? ⟨gb412,3,none⟩=some (.int .i64 0):=(y08 BK412.out 3).trans rfl;have hfz10_0:=y06 BK412.out 0;have hfz10_1:=y06 BK412.out 1;have hfz10_2:=y06 BK412.out 2;have hfz10_3:=y06 BK412.out 3))
   repeat (go_quiet (first|(go_at_call 24;(with_reducible refine (r6_Crossed.calls k _ _ l0 t406 t407 t408 t409 false t411 _ ?side1 ?side2 A2.out).mono ?_);(case side1=>repeat (first|exact HR0.out|(with_reducible refine Kd.C_alloc ?_ _)|(with_reducible refine Kd.C_drewN ?_ _)|(with_reducible refine Kd.C_drew ?_)));(case side2=>exact HC0.out);rintro e w8 ⟨rfl,hb⟩;have n0_:=As0.mk (y07 (by repeat (with_reducible first|exact HB.out|apply y01|apply y00|apply y02)) hb);clear HB;have HB:=n0_;clear n0_;(try clear hb);(try clear hb2);(try clear hk);(try clear hi))|((with_reducible refine y0i (N:=4) rfl ?_);refine y0q ?hg (N:=4) ?hd (cs:=#[.int .i64 0,.int .i64 0,.int .i64 0,.int .i64 0]) (t:=31) ?hr ?_;(case hd=>rfl);(case hg=>rfl);(case hr=>first|(go_simp;done)|(go_simp;rfl));intro gb412 hg w9 hbox hb;have n0_:=As0.mk (y07 (by repeat (with_reducible first|exact HB.out|apply y01|apply y00|apply y02)) hb);have n1_:=As0.mk (hbox);have n2_:=As0.mk ((by rw [hg];exact (y05 (by repeat (with_reducible first|exact HB.out|apply y01|apply y00|apply y02))):w.heap.size≤gb412));have n3_:=As0.mk ((by rw [hg];exact (y05 (by repeat (with_reducible first|exact HB.out|apply y01|apply y00|apply y02))):w.heap.size≤gb412));clear HB;have HB:=n0_;have BK412:=n1_;have GW412:=n2_;have GE412:=n3_;clear n0_ n1_ n2_ n3_;clear hb hbox hg;have hcz10_0:w9.cell? ⟨gb412,0,none⟩=some (.int .i64 0):=(y08 BK412.out 0).trans rfl;have hcz10_1:w9.cell? ⟨gb412,1,none⟩=some (.int .i64 0):=(y08 BK412.out 1).trans rfl;have hcz10_2:w9.cell? ⟨gb412,2,none⟩=some (.int .i64 0):=(y08 BK412.out 2).trans rfl;have hcz10_3:w9.cell? ⟨gb412,3,none⟩=some (.int .i64 0):=(y08 BK412.out 3).trans rfl;have hfz10_0:=y06 BK412.out 0;have hfz10_1:=y06 BK412.out 1;have hfz10_2:=y06 BK412.out 2;have hfz10_3:=y06 BK412.out 3));try go_wp2_with (first|(go_at_call 24;(with_reducible refine (r6_Crossed.calls k _ _ l0 t406 t407 t408 t409 false t411 _ ?side1 ?side2 A2.out).mono ?_);(case side1=>repeat (first|exact HR0.out|(with_reducible refine Kd.C_alloc ?_ _)|(with_reducible refine Kd.C_drewN ?_ _)|(with_reducible refine Kd.C_drew ?_)));(case side2=>exact HC0.out);rintro e w8 ⟨rfl,hb⟩;have n0_:=As0.mk (y07 (by repeat (with_reducible first|exact HB.out|apply y01|apply y00|apply y02)) hb);clear HB;have HB:=n0_;clear n0_;(try clear hb);(try clear hb2);(try clear hk);(try clear hi))|((with_reducible refine y0i (N:=4) rfl ?_);refine y0q ?hg (N:=4) ?hd (cs:=#[.int .i64 0,.int .i64 0,.int .i64 0,.int .i64 0]) (t:=31) ?hr ?_;(case hd=>rfl);(case hg=>rfl);(case hr=>first|(go_simp;done)|(go_simp;rfl));intro gb412 hg w9 hbox hb;have n0_:=As0.mk (y07 (by repeat (with_reducible first|exact HB.out|apply y01|apply y00|apply y02)) hb);have n1_:=As0.mk (hbox);have n2_:=As0.mk ((by rw [hg];exact (y05 (by repeat (with_reducible first|exact HB.out|apply y01|apply y00|apply y02))):w.heap.size≤gb412));have n3_:=As0.mk ((by rw [hg];exact (y05 (by repeat (with_reducible first|exact HB.out|apply y01|apply y00|apply y02))):w.heap.size≤gb412));clear HB;have HB:=n0_;have BK412:=n1_;have GW412:=n2_;have GE412:=n3_;clear n0_ n1_ n2_ n3_;clear hb hbox hg;have hcz10_0:w9.cell? ⟨gb412,0,none⟩=some (.int .i64 0):=(y08 BK412.out 0).trans rfl;have hcz10_1:w9.cell? ⟨gb412,1,none⟩=some (.int .i64 0):=(y08 BK412.out 1).trans rfl;have hcz10_2:w9.cell? ⟨gb412,2,none⟩=some (.int .i64 0):=(y08 BK412.out 2).trans rfl;have hcz10_3:w9.cell? ⟨gb412,3,none⟩=some (.int .i64 0):=(y08 BK412.out 3).trans rfl;have hfz10_0:=y06 BK412.out 0;have hfz10_1:=y06 BK412.out 1;have hfz10_2:=y06 BK412.out 2;have hfz10_3:=y06 BK412.out 3)))
   go_loopg [7,8] k (fun kq v7 v8 w'=>∃ (x7_1:List Int) (x8_1:Int),v8=.int .i64 x8_1∧As0 (r6_Between.l0 kq l0 x7_1 x8_1=some (r1,r2))∧As0 (kq≤k)∧As0 (Kd.R (Kd.int .i64) 3 w' w.heap.size (fun _=>True) v7 x7_1)∧As0 (w'.heap[gb412]?=some (.cells #[.int .i64 t406,.int .i64 t407,.int .i64 t408,.int .i64 t409] 31 (0,0)))∧As0 (Below w.heap.size w w'))
   case atStart=>exact ⟨(([]:List Int)),(0),(by first|rfl|(simp;done)|(simp [*];done)),H',⟨zLe _⟩,⟨by first|exact Kd.R_nil _ _ _ _ _|exact Kd.N_nil _ _ _ _ _|exact Kd.V_nil _ _ _ _ _|exact Kd.Q_nil _ _ _ _ _|exact Kd.S_nil _ _ _ _ _⟩,⟨by (with_reducible repeat (first|refine y03 ?_ _|refine blk_drew ?_|refine blk_alloc ?_ _));refine y0g (cs:=#[.int .i64 t406,.int .i64 t407,.int .i64 t408,.int .i64 0]) ?_ 3 _ rfl;(with_reducible repeat (first|refine y03 ?_ _|refine blk_drew ?_|refine blk_alloc ?_ _));refine y0g (cs:=#[.int .i64 t406,.int .i64 t407,.int .i64 0,.int .i64 0]) ?_ 2 _ rfl;(with_reducible repeat (first|refine y03 ?_ _|refine blk_drew ?_|refine blk_alloc ?_ _));refine y0g (cs:=#[.int .i64 t406,.int .i64 0,.int .i64 0,.int .i64 0]) ?_ 1 _ rfl;(with_reducible repeat (first|refine y03 ?_ _|refine blk_drew ?_|refine blk_alloc ?_ _));refine y0g (cs:=#[.int .i64 0,.int .i64 0,.int .i64 0,.int .i64 0]) ?_ 0 _ rfl;(with_reducible repeat (first|refine y03 ?_ _|refine blk_drew ?_|refine blk_alloc ?_ _));exact BK412.out⟩,⟨by repeat (with_reducible first|exact HB.out|apply y01|apply y00|apply y02|refine y04 ?_ GE412.out)⟩⟩
   case round =>
    clear H'
    try clear c2
    try clear p2
    try clear c3
    try clear c3b0
    try clear c3b1
    try clear c4
    try clear hcz10_0
    try clear hcz10_1
    try clear hcz10_2
    try clear hcz10_3
    try clear hcz7_0
    try clear hcz7_1
    try clear hcz7_2
    try clear hcz7_3
    try clear hfz10_0
    try clear hfz10_1
    try clear hfz10_2
    try clear hfz10_3
    try clear hfz7_0
    try clear hfz7_1
    try clear hfz7_2
    try clear hfz7_3
    obtain ⟨x7_1,x8_1,rfl,HA,HK1,HO_7,BK412,HB⟩:=hrel;cases gk with
    |zero=>exact absurd HA.out (by simp [r6_Between.l0])
    |succ k1 =>
     have H:=HA.out;clear HA;simp only [r6_Between.l0] at H
     by_cases c11:x8_1<(l0.length:Int)
     ·rw [if_pos c11] at H
      have c11b0:decide (x8_1<(l0.length:Int))=true:=zDt c11;clear c11
      by_cases c12:x7_1.length<17592186044416
      ·rw [if_pos c12] at H
       have LMc12:=As0.mk c12;clear c12;obtain ⟨y416,hy416⟩:∃ y_:List Int,y_=(x7_1 ++ [x8_1]):=⟨_,rfl⟩
       replace H:(r6_Between.l1 k1 l0 y416 x8_1 0)=some (r1,r2):=by first|(rw [hy416];with_reducible exact H)|(have H2_:=(Option.bind_some _ _).symm.trans H;rw [hy416];with_reducible exact H2_)|(have H2_:=(Option.bind_some _ _).symm.trans H;with_reducible exact H2_)|with_reducible exact H|(rw [hy416];exact H)|exact H
       have Ny416:=As0.mk hy416;clear hy416;have H':=As0.mk H;clear H;go_wp2_with (first|((with_reducible refine y0p (b:=.append) (xs:=#[.tmp 29,.tmp 31]) rfl ?_);at_builtin;refine Kd.R_append (Kd.int .i64) (w0:=w) w.heap.size rfl (.tmp 29) (.tmp 31) 29 3 (.int .i64 0) 8 rfl Tra.underlying29 info3 rfl (by decide) (by omega) u7 x7_1 x8_1 [.int .i64 x8_1] (fun _=>True) (fun _=>False) rfl rfl ?aP (fun _ hk=>hk.elim) ?aF ?aO ?aB ?aS ?aL ?_;(case aP=>exact rfl);(case aB=>exact (by repeat (with_reducible first|exact HB.out|apply y01|apply y00|apply y02|refine y04 ?_ GE412.out)));(case aF=>exact (fun _ _=>trivial));(case aO=>exact (by (with_reducible repeat (first|apply Kd.R_alloc|apply Kd.R_drewN|apply Kd.R_drew));exact HO_7.out));(case aS=>exact (y05 (by repeat (with_reducible first|exact HB.out|apply y01|apply y00|apply y02|refine y04 ?_ GE412.out))));(case aL=>have:=LMc12.out;omega);intro v417 w13 ho hb hg hat;rw [← Ny416.out] at ho;have n0_:=As0.mk (y27 (g:=gb412) (o:=.cells #[.int .i64 t406,.int .i64 t407,.int .i64 t408,.int .i64 t409] 31 (0,0)) (by (with_reducible repeat (first|refine y03 ?_ _|refine blk_drew ?_|refine blk_alloc ?_ _));exact BK412.out) hg (Kd.R_ne HO_7.out BK412.out (by decide)));have n1_:=As0.mk (hb);have n2_:=As0.mk (ho);clear BK412;clear HB;clear HO_7;have BK412:=n0_;have HB:=n1_;have HO418:=n2_;clear n0_ n1_ n2_;clear ho hb hg hat))
       repeat (go_quiet (first|((with_reducible refine y0p (b:=.append) (xs:=#[.tmp 29,.tmp 31]) rfl ?_);at_builtin;refine Kd.R_append (Kd.int .i64) (w0:=w) w.heap.size rfl (.tmp 29) (.tmp 31) 29 3 (.int .i64 0) 8 rfl Tra.underlying29 info3 rfl (by decide) (by omega) u7 x7_1 x8_1 [.int .i64 x8_1] (fun _=>True) (fun _=>False) rfl rfl ?aP (fun _ hk=>hk.elim) ?aF ?aO ?aB ?aS ?aL ?_;(case aP=>exact rfl);(case aB=>exact (by repeat (with_reducible first|exact HB.out|apply y01|apply y00|apply y02|refine y04 ?_ GE412.out)));(case aF=>exact (fun _ _=>trivial));(case aO=>exact (by (with_reducible repeat (first|apply Kd.R_alloc|apply Kd.R_drewN|apply Kd.R_drew));exact HO_7.out));(case aS=>exact (y05 (by repeat (with_reducible first|exact HB.out|apply y01|apply y00|apply y02|refine y04 ?_ GE412.out))));(case aL=>have:=LMc12.out;omega);intro v417 w13 ho hb hg hat;rw [← Ny416.out] at ho;have n0_:=As0.mk (y27 (g:=gb412) (o:=.cells #[.int .i64 t406,.int .i64 t407,.int .i64 t408,.int .i64 t409] 31 (0,0)) (by (with_reducible repeat (first|refine y03 ?_ _|refine blk_drew ?_|refine blk_alloc ?_ _));exact BK412.out) hg (Kd.R_ne HO_7.out BK412.out (by decide)));have n1_:=As0.mk (hb);have n2_:=As0.mk (ho);clear BK412;clear HB;clear HO_7;have BK412:=n0_;have HB:=n1_;have HO418:=n2_;clear n0_ n1_ n2_;clear ho hb hg hat));try go_wp2_with (first|((with_reducible refine y0p (b:=.append) (xs:=#[.tmp 29,.tmp 31]) rfl ?_);at_builtin;refine Kd.R_append (Kd.int .i64) (w0:=w) w.heap.size rfl (.tmp 29) (.tmp 31) 29 3 (.int .i64 0) 8 rfl Tra.underlying29 info3 rfl (by decide) (by omega) u7 x7_1 x8_1 [.int .i64 x8_1] (fun _=>True) (fun _=>False) rfl rfl ?aP (fun _ hk=>hk.elim) ?aF ?aO ?aB ?aS ?aL ?_;(case aP=>exact rfl);(case aB=>exact (by repeat (with_reducible first|exact HB.out|apply y01|apply y00|apply y02|refine y04 ?_ GE412.out)));(case aF=>exact (fun _ _=>trivial));(case aO=>exact (by (with_reducible repeat (first|apply Kd.R_alloc|apply Kd.R_drewN|apply Kd.R_drew));exact HO_7.out));(case aS=>exact (y05 (by repeat (with_reducible first|exact HB.out|apply y01|apply y00|apply y02|refine y04 ?_ GE412.out))));(case aL=>have:=LMc12.out;omega);intro v417 w13 ho hb hg hat;rw [← Ny416.out] at ho;have n0_:=As0.mk (y27 (g:=gb412) (o:=.cells #[.int .i64 t406,.int .i64 t407,.int .i64 t408,.int .i64 t409] 31 (0,0)) (by (with_reducible repeat (first|refine y03 ?_ _|refine blk_drew ?_|refine blk_alloc ?_ _));exact BK412.out) hg (Kd.R_ne HO_7.out BK412.out (by decide)));have n1_:=As0.mk (hb);have n2_:=As0.mk (ho);clear BK412;clear HB;clear HO_7;have BK412:=n0_;have HB:=n1_;have HO418:=n2_;clear n0_ n1_ n2_;clear ho hb hg hat)))
       go_loopg [9] k1 (fun kq v9 w'=>∃ (x7_2:List Int) (x9_2:Int),v9=.int .i64 x9_2∧As0 (r6_Between.l1 kq l0 x7_2 x8_1 x9_2=some (r1,r2))∧As0 (kq≤k1)∧As0 (Kd.R (Kd.int .i64) 3 w' w.heap.size (fun _=>True) v417 x7_2)∧As0 (w'.heap[gb412]?=some (.cells #[.int .i64 t406,.int .i64 t407,.int .i64 t408,.int .i64 t409] 31 (0,0)))∧As0 (Below w.heap.size w w'))
       case atStart=>exact ⟨(y416),(0),(by first|rfl|(simp;done)|(simp [*];done)),H',⟨zLe _⟩,⟨by (with_reducible repeat (first|apply Kd.R_alloc|apply Kd.R_drewN|apply Kd.R_drew));exact HO418.out⟩,⟨by (with_reducible repeat (first|refine y03 ?_ _|refine blk_drew ?_|refine blk_alloc ?_ _));exact BK412.out⟩,⟨by repeat (with_reducible first|exact HB.out|apply y01|apply y00|apply y02|refine y04 ?_ GE412.out)⟩⟩
       case round =>
        clear H'
        try clear c1
        try clear c2
        try clear p2
        try clear c3
        try clear c3b0
        try clear c3b1
        try clear c4
        try clear c11
        try clear c11b0
        try clear c12
        try clear hcz10_0
        try clear hcz10_1
        try clear hcz10_2
        try clear hcz10_3
        try clear hcz7_0
        try clear hcz7_1
        try clear hcz7_2
        try clear hcz7_3
        try clear hfz10_0
        try clear hfz10_1
        try clear hfz10_2
        try clear hfz10_3
        try clear hfz7_0
        try clear hfz7_1
        try clear hfz7_2
        try clear hfz7_3
        try clear p2
        obtain ⟨x7_2,x9_2,rfl,HA,HK2,HO_7,BK412,HB⟩:=hrel;cases gk with
        |zero=>exact absurd HA.out (by simp [r6_Between.l1])
        |succ k2 =>
         have H:=HA.out;clear HA;simp only [r6_Between.l1] at H
         by_cases c14:x9_2<x8_1
         ·rw [if_pos c14] at H
          have c14b0:decide (x9_2<x8_1)=true:=zDt c14;clear c14;have H':=As0.mk H;clear H;go_wp2
          repeat (go_quiet (fail);try go_wp2)
          go_loopg [10,11] k2 (fun kq v10 v11 w'=>∃ (x10_3:Bool) (x11_3:Int),v10=.bool x10_3∧v11=.int .i64 x11_3∧As0 (r6_Between.l2 kq l0 x7_2 x8_1 x9_2 x10_3 x11_3=some (r1,r2))∧As0 (kq≤k2)∧As0 (Kd.R (Kd.int .i64) 3 w' w.heap.size (fun _=>True) v417 x7_2)∧As0 (w'.heap[gb412]?=some (.cells #[.int .i64 t406,.int .i64 t407,.int .i64 t408,.int .i64 t409] 31 (0,0)))∧As0 (Below w.heap.size w w'))
          case atStart=>exact ⟨(true),(0),(by first|rfl|(simp;done)|(simp [*];done)),(by first|rfl|(simp;done)|(simp [*];done)),H',⟨zLe _⟩,⟨by (with_reducible repeat (first|apply Kd.R_alloc|apply Kd.R_drewN|apply Kd.R_drew));exact HO_7.out⟩,⟨by (with_reducible repeat (first|refine y03 ?_ _|refine blk_drew ?_|refine blk_alloc ?_ _));exact BK412.out⟩,⟨by repeat (with_reducible first|exact HB.out|apply y01|apply y00|apply y02|refine y04 ?_ GE412.out)⟩⟩
          case round =>
           clear H'
           try clear c1
           try clear c2
           try clear p2
           try clear c3
           try clear c3b0
           try clear c3b1
           try clear c4
           try clear c11
           try clear c11b0
           try clear c12
           try clear c14
           try clear c14b0
           try clear hcz10_0
           try clear hcz10_1
           try clear hcz10_2
           try clear hcz10_3
           try clear hcz7_0
           try clear hcz7_1
           try clear hcz7_2
           try clear hcz7_3
           try clear hfz10_0
           try clear hfz10_1
           try clear hfz10_2
           try clear hfz10_3
           try clear hfz7_0
           try clear hfz7_1
           try clear hfz7_2
           try clear hfz7_3
           try clear p2
           obtain ⟨x10_3,x11_3,rfl,rfl,HA,HK3,HO_7,BK412,HB⟩:=hrel;cases gk with
           |zero=>exact absurd HA.out (by simp [r6_Between.l2])
           |succ k3 =>
            have H:=HA.out;clear HA;simp only [r6_Between.l2] at H
            by_cases c15:x11_3<(l0.length:Int)
            ·rw [if_pos c15] at H
             have c15b0:decide (x11_3<(l0.length:Int))=true:=zDt c15;clear c15;have H':=As0.mk H;clear H;go_wp2
             repeat (go_quiet (fail);try go_wp2)
             go_loopg [10,12] k3 (fun kq v10 v12 w'=>∃ (x10_4:Bool) (x12_4:Int),v10=.bool x10_4∧v12=.int .i64 x12_4∧As0 (r6_Between.l3 kq l0 x7_2 x8_1 x9_2 x10_4 x11_3 x12_4=some (r1,r2))∧As0 (kq≤k3)∧As0 (Kd.R (Kd.int .i64) 3 w' w.heap.size (fun _=>True) v417 x7_2)∧As0 (w'.heap[gb412]?=some (.cells #[.int .i64 t406,.int .i64 t407,.int .i64 t408,.int .i64 t409] 31 (0,0)))∧As0 (Below w.heap.size w w'))
             case atStart=>exact ⟨(x10_3),(0),(by first|rfl|(simp;done)|(simp [*];done)),(by first|rfl|(simp;done)|(simp [*];done)),H',⟨zLe _⟩,⟨by (with_reducible repeat (first|apply Kd.R_alloc|apply Kd.R_drewN|apply Kd.R_drew));exact HO_7.out⟩,⟨by (with_reducible repeat (first|refine y03 ?_ _|refine blk_drew ?_|refine blk_alloc ?_ _));exact BK412.out⟩,⟨by repeat (with_reducible first|exact HB.out|apply y01|apply y00|apply y02|refine y04 ?_ GE412.out)⟩⟩
             case round =>
              clear H'
              try clear c1
              try clear c2
              try clear p2
              try clear c3
              try clear c3b0
              try clear c3b1
              try clear c4
              try clear c11
              try clear c11b0
              try clear c12
              try clear c14
              try clear c14b0
              try clear c15
              try clear c15b0
              try clear hcz10_0
              try clear hcz10_1
              try clear hcz10_2
              try clear hcz10_3
              try clear hcz7_0
              try clear hcz7_1
              try clear hcz7_2
              try clear hcz7_3
              try clear hfz10_0
              try clear hfz10_1
              try clear hfz10_2
              try clear hfz10_3
              try clear hfz7_0
              try clear hfz7_1
              try clear hfz7_2
              try clear hfz7_3
              try clear p2
              obtain ⟨x10_4,x12_4,rfl,rfl,HA,HK4,HO_7,BK412,HB⟩:=hrel;cases gk with
              |zero=>exact absurd HA.out (by simp [r6_Between.l3])
              |succ k4 =>
               have H:=HA.out;clear HA;simp only [r6_Between.l3] at H
               by_cases c16:x12_4<(l0.length:Int)
               ·rw [if_pos c16] at H
                have c16b0:decide (x12_4<(l0.length:Int))=true:=zDt c16;clear c16
                by_cases c17:x10_4=true
                ·subst c17
                 have H1:(if 0≤x11_3 then (if x11_3<(l0.length:Int) then (if 0≤x12_4 then (if (rd l0 x11_3)=(rd l0 x12_4) then (if x9_2<x11_3 then (if x11_3≤x8_1 then (if x12_4≤x9_2 then (r6_Between.l3 k4 l0 x7_2 x8_1 x9_2 (!true) x11_3 (wrap64 (x12_4+1))) else (r6_Between.l3 k4 l0 x7_2 x8_1 x9_2 (!(decide (x12_4 > x8_1))) x11_3 (wrap64 (x12_4+1)))) else (r6_Between.l3 k4 l0 x7_2 x8_1 x9_2 (!false) x11_3 (wrap64 (x12_4+1)))) else (r6_Between.l3 k4 l0 x7_2 x8_1 x9_2 (!false) x11_3 (wrap64 (x12_4+1)))) else (r6_Between.l3 k4 l0 x7_2 x8_1 x9_2 (!false) x11_3 (wrap64 (x12_4+1)))) else (none)) else (none)) else (none))=some (r1,r2):=by rw [if_pos rfl] at H;exact H
                 clear H;have H:=H1;clear H1
                 by_cases c18:0≤x11_3
                 ·rw [if_pos c18] at H
                  have c18b0:decide (0≤x11_3)=true:=zDt c18;clear c18
                  by_cases c19:x11_3<(l0.length:Int)
                  ·rw [if_pos c19] at H
                   have c19b0:decide (x11_3<(l0.length:Int))=true:=zDt c19;clear c19
                   by_cases c20:0≤x12_4
                   ·rw [if_pos c20] at H
                    have c20b0:decide (0≤x12_4)=true:=zDt c20;clear c20
                    by_cases c21:(rd l0 x11_3)=(rd l0 x12_4)
                    ·rw [if_pos c21] at H
                     have c21b0:((rd l0 x11_3) == (rd l0 x12_4))=true:=beq_iff_eq.mpr c21;have c21b1:((rd l0 x11_3) != (rd l0 x12_4))=false:=bne_eq_false_iff_eq.mpr c21;clear c21
                     by_cases c22:x9_2<x11_3
                     ·rw [if_pos c22] at H
                      have c22b0:decide (x9_2<x11_3)=true:=zDt c22;clear c22
                      by_cases c23:x11_3≤x8_1
                      ·rw [if_pos c23] at H
                       have c23b0:decide (x11_3≤x8_1)=true:=zDt c23;clear c23
                       by_cases c24:x12_4≤x9_2
                       ·rw [if_pos c24] at H
                        have c24b0:decide (x12_4≤x9_2)=true:=zDt c24;clear c24;have H':=As0.mk H;clear H;have p422:0≤(x11_3:Int):=zDo (by with_reducible assumption);have q422:x11_3<(l0.length:Int):=zDo (by with_reducible assumption);obtain ⟨ad422,e422,hx422_0⟩:=Kd.at_int HR0.out x11_3 p422 q422;cases e422
                        replace hx422_0:=(HB.out.cell (World.block_lt_of_cell? w _ hx422_0)).trans hx422_0;replace p422:=eq_true p422;replace q422:=eq_true q422;have p423:0≤(x12_4:Int):=zDo (by with_reducible assumption);have q423:x12_4<(l0.length:Int):=zDo (by with_reducible assumption);obtain ⟨ad423,e423,hx423_0⟩:=Kd.at_int HR0.out x12_4 p423 q423;obtain rfl:ad422=ad423:=(by injection e423)
                        replace hx423_0:=(HB.out.cell (World.block_lt_of_cell? w _ hx423_0)).trans hx423_0;replace p423:=eq_true p423;replace q423:=eq_true q423;go_wp2
                        repeat (go_quiet (fail);try go_wp2)
                        go_roundg k4
                        case measure=>have:=HK1.out;have:=HK2.out;have:=HK3.out;have:=HK4.out;omega
                        case rel=>exact ⟨(!true),(wrap64 (x12_4+1)),(by first|rfl|(simp;done)|(simp [*];done)),(by first|rfl|(simp;done)|(simp [*];done)),H',⟨by have:=HK1.out;have:=HK2.out;have:=HK3.out;have:=HK4.out;omega⟩,⟨by (with_reducible repeat (first|apply Kd.R_alloc|apply Kd.R_drewN|apply Kd.R_drew));exact HO_7.out⟩,⟨by (with_reducible repeat (first|refine y03 ?_ _|refine blk_drew ?_|refine blk_alloc ?_ _));exact BK412.out⟩,⟨by repeat (with_reducible first|exact HB.out|apply y01|apply y00|apply y02|refine y04 ?_ GE412.out)⟩⟩
                       ·rw [if_neg c24] at H
                        have c24b0:decide (x12_4≤x9_2)=false:=zDf c24;clear c24;have H':=As0.mk H;clear H;have p422:0≤(x11_3:Int):=zDo (by with_reducible assumption);have q422:x11_3<(l0.length:Int):=zDo (by with_reducible assumption);obtain ⟨ad422,e422,hx422_0⟩:=Kd.at_int HR0.out x11_3 p422 q422;cases e422
                        replace hx422_0:=(HB.out.cell (World.block_lt_of_cell? w _ hx422_0)).trans hx422_0;replace p422:=eq_true p422;replace q422:=eq_true q422;have p423:0≤(x12_4:Int):=zDo (by with_reducible assumption);have q423:x12_4<(l0.length:Int):=zDo (by with_reducible assumption);obtain ⟨ad423,e423,hx423_0⟩:=Kd.at_int HR0.out x12_4 p423 q423;obtain rfl:ad422=ad423:=(by injection e423)
                        replace hx423_0:=(HB.out.cell (World.block_lt_of_cell? w _ hx423_0)).trans hx423_0;replace p423:=eq_true p423;replace q423:=eq_true q423;go_wp2
                        repeat (go_quiet (fail);try go_wp2)
                        go_roundg k4
                        case measure=>have:=HK1.out;have:=HK2.out;have:=HK3.out;have:=HK4.out;omega
                        case rel=>exact ⟨(!(decide (x12_4 > x8_1))),(wrap64 (x12_4+1)),(by first|rfl|(simp;done)|(simp [*];done)),(by first|rfl|(simp;done)|(simp [*];done)),H',⟨by have:=HK1.out;have:=HK2.out;have:=HK3.out;have:=HK4.out;omega⟩,⟨by (with_reducible repeat (first|apply Kd.R_alloc|apply Kd.R_drewN|apply Kd.R_drew));exact HO_7.out⟩,⟨by (with_reducible repeat (first|refine y03 ?_ _|refine blk_drew ?_|refine blk_alloc ?_ _));exact BK412.out⟩,⟨by repeat (with_reducible first|exact HB.out|apply y01|apply y00|apply y02|refine y04 ?_ GE412.out)⟩⟩
                      ·rw [if_neg c23] at H
                       have c23b0:decide (x11_3≤x8_1)=false:=zDf c23;clear c23;have H':=As0.mk H;clear H;have p422:0≤(x11_3:Int):=zDo (by with_reducible assumption);have q422:x11_3<(l0.length:Int):=zDo (by with_reducible assumption);obtain ⟨ad422,e422,hx422_0⟩:=Kd.at_int HR0.out x11_3 p422 q422;cases e422
                       replace hx422_0:=(HB.out.cell (World.block_lt_of_cell? w _ hx422_0)).trans hx422_0;replace p422:=eq_true p422;replace q422:=eq_true q422;have p423:0≤(x12_4:Int):=zDo (by with_reducible assumption);have q423:x12_4<(l0.length:Int):=zDo (by with_reducible assumption);obtain ⟨ad423,e423,hx423_0⟩:=Kd.at_int HR0.out x12_4 p423 q423;obtain rfl:ad422=ad423:=(by injection e423)
                       replace hx423_0:=(HB.out.cell (World.block_lt_of_cell? w _ hx423_0)).trans hx423_0;replace p423:=eq_true p423;replace q423:=eq_true q423;go_wp2
                       repeat (go_quiet (fail);try go_wp2)
                       go_roundg k4
                       case measure=>have:=HK1.out;have:=HK2.out;have:=HK3.out;have:=HK4.out;omega
                       case rel=>exact ⟨(!false),(wrap64 (x12_4+1)),(by first|rfl|(simp;done)|(simp [*];done)),(by first|rfl|(simp;done)|(simp [*];done)),H',⟨by have:=HK1.out;have:=HK2.out;have:=HK3.out;have:=HK4.out;omega⟩,⟨by (with_reducible repeat (first|apply Kd.R_alloc|apply Kd.R_drewN|apply Kd.R_drew));exact HO_7.out⟩,⟨by (with_reducible repeat (first|refine y03 ?_ _|refine blk_drew ?_|refine blk_alloc ?_ _));exact BK412.out⟩,⟨by repeat (with_reducible first|exact HB.out|apply y01|apply y00|apply y02|refine y04 ?_ GE412.out)⟩⟩
                     ·rw [if_neg c22] at H
                      have c22b0:decide (x9_2<x11_3)=false:=zDf c22;clear c22;have H':=As0.mk H;clear H;have p422:0≤(x11_3:Int):=zDo (by with_reducible assumption);have q422:x11_3<(l0.length:Int):=zDo (by with_reducible assumption);obtain ⟨ad422,e422,hx422_0⟩:=Kd.at_int HR0.out x11_3 p422 q422;cases e422
                      replace hx422_0:=(HB.out.cell (World.block_lt_of_cell? w _ hx422_0)).trans hx422_0;replace p422:=eq_true p422;replace q422:=eq_true q422;have p423:0≤(x12_4:Int):=zDo (by with_reducible assumption);have q423:x12_4<(l0.length:Int):=zDo (by with_reducible assumption);obtain ⟨ad423,e423,hx423_0⟩:=Kd.at_int HR0.out x12_4 p423 q423;obtain rfl:ad422=ad423:=(by injection e423)
                      replace hx423_0:=(HB.out.cell (World.block_lt_of_cell? w _ hx423_0)).trans hx423_0;replace p423:=eq_true p423;replace q423:=eq_true q423;go_wp2
                      repeat (go_quiet (fail);try go_wp2)
                      go_roundg k4
                      case measure=>have:=HK1.out;have:=HK2.out;have:=HK3.out;have:=HK4.out;omega
                      case rel=>exact ⟨(!false),(wrap64 (x12_4+1)),(by first|rfl|(simp;done)|(simp [*];done)),(by first|rfl|(simp;done)|(simp [*];done)),H',⟨by have:=HK1.out;have:=HK2.out;have:=HK3.out;have:=HK4.out;omega⟩,⟨by (with_reducible repeat (first|apply Kd.R_alloc|apply Kd.R_drewN|apply Kd.R_drew));exact HO_7.out⟩,⟨by (with_reducible repeat (first|refine y03 ?_ _|refine blk_drew ?_|refine blk_alloc ?_ _));exact BK412.out⟩,⟨by repeat (with_reducible first|exact HB.out|apply y01|apply y00|apply y02|refine y04 ?_ GE412.out)⟩⟩
                    ·rw [if_neg c21] at H
                     have c21b0:((rd l0 x11_3) == (rd l0 x12_4))=false:=beq_eq_false_iff_ne.mpr c21;have c21b1:((rd l0 x11_3) != (rd l0 x12_4))=true:=bne_iff_ne.mpr c21;have H':=As0.mk H;clear H;have p422:0≤(x11_3:Int):=zDo (by with_reducible assumption);have q422:x11_3<(l0.length:Int):=zDo (by with_reducible assumption);obtain ⟨ad422,e422,hx422_0⟩:=Kd.at_int HR0.out x11_3 p422 q422;cases e422
                     replace hx422_0:=(HB.out.cell (World.block_lt_of_cell? w _ hx422_0)).trans hx422_0;replace p422:=eq_true p422;replace q422:=eq_true q422;have p423:0≤(x12_4:Int):=zDo (by with_reducible assumption);have q423:x12_4<(l0.length:Int):=zDo (by with_reducible assumption);obtain ⟨ad423,e423,hx423_0⟩:=Kd.at_int HR0.out x12_4 p423 q423;obtain rfl:ad422=ad423:=(by injection e423)
                     replace hx423_0:=(HB.out.cell (World.block_lt_of_cell? w _ hx423_0)).trans hx423_0;replace p423:=eq_true p423;replace q423:=eq_true q423;go_wp2
                     repeat (go_quiet (fail);try go_wp2)
                     go_roundg k4
                     case measure=>have:=HK1.out;have:=HK2.out;have:=HK3.out;have:=HK4.out;omega
                     case rel=>exact ⟨(!false),(wrap64 (x12_4+1)),(by first|rfl|(simp;done)|(simp [*];done)),(by first|rfl|(simp;done)|(simp [*];done)),H',⟨by have:=HK1.out;have:=HK2.out;have:=HK3.out;have:=HK4.out;omega⟩,⟨by (with_reducible repeat (first|apply Kd.R_alloc|apply Kd.R_drewN|apply Kd.R_drew));exact HO_7.out⟩,⟨by (with_reducible repeat (first|refine y03 ?_ _|refine blk_drew ?_|refine blk_alloc ?_ _));exact BK412.out⟩,⟨by repeat (with_reducible first|exact HB.out|apply y01|apply y00|apply y02|refine y04 ?_ GE412.out)⟩⟩
                   ·rw [if_neg c20] at H
                    exact absurd H (by simp)
                  ·rw [if_neg c19] at H
                   exact absurd H (by simp)
                 ·rw [if_neg c18] at H
                  exact absurd H (by simp)
                ·replace c17:=Bool.eq_false_iff.mpr c17
                 subst c17;have H1:(r6_Between.l3 k4 l0 x7_2 x8_1 x9_2 false x11_3 (wrap64 (x12_4+1)))=some (r1,r2):=by rw [if_neg (show ¬ (false=true) by decide)] at H;exact H
                 clear H;have H:=H1;clear H1;have H':=As0.mk H;clear H;go_wp2
                 repeat (go_quiet (fail);try go_wp2)
                 go_roundg k4
                 case measure=>have:=HK1.out;have:=HK2.out;have:=HK3.out;have:=HK4.out;omega
                 case rel=>exact ⟨(false),(wrap64 (x12_4+1)),(by first|rfl|(simp;done)|(simp [*];done)),(by first|rfl|(simp;done)|(simp [*];done)),H',⟨by have:=HK1.out;have:=HK2.out;have:=HK3.out;have:=HK4.out;omega⟩,⟨by (with_reducible repeat (first|apply Kd.R_alloc|apply Kd.R_drewN|apply Kd.R_drew));exact HO_7.out⟩,⟨by (with_reducible repeat (first|refine y03 ?_ _|refine blk_drew ?_|refine blk_alloc ?_ _));exact BK412.out⟩,⟨by repeat (with_reducible first|exact HB.out|apply y01|apply y00|apply y02|refine y04 ?_ GE412.out)⟩⟩
               ·rw [if_neg c16] at H
                have c16b0:decide (x12_4<(l0.length:Int))=false:=zDf c16;clear c16;have H':=As0.mk H;clear H;go_wp2
                repeat (go_quiet (fail);try go_wp2)
                go_roundg k4
                case measure=>have:=HK1.out;have:=HK2.out;have:=HK3.out;have:=HK4.out;omega
                case rel=>exact ⟨(x10_4),(wrap64 (x11_3+1)),(by first|rfl|(simp;done)|(simp [*];done)),(by first|rfl|(simp;done)|(simp [*];done)),H',⟨by have:=HK1.out;have:=HK2.out;have:=HK3.out;have:=HK4.out;omega⟩,⟨by (with_reducible repeat (first|apply Kd.R_alloc|apply Kd.R_drewN|apply Kd.R_drew));exact HO_7.out⟩,⟨by (with_reducible repeat (first|refine y03 ?_ _|refine blk_drew ?_|refine blk_alloc ?_ _));exact BK412.out⟩,⟨by repeat (with_reducible first|exact HB.out|apply y01|apply y00|apply y02|refine y04 ?_ GE412.out)⟩⟩
            ·rw [if_neg c15] at H
             have c15b0:decide (x11_3<(l0.length:Int))=false:=zDf c15;clear c15
             by_cases c25:x10_3=true
             ·subst c25
              have H1:(if 0≤x8_1 then (if x8_1<(x7_2.length:Int) then (if (rd x7_2 x8_1)=x8_1 then (if 0≤x9_2 then (if x9_2<(x7_2.length:Int) then (r6_Between.l1 k3 l0 (x7_2.set (x8_1:Int).toNat (rd x7_2 x9_2)) x8_1 (wrap64 (x9_2+1))) else (none)) else (none)) else (r6_Between.l1 k3 l0 x7_2 x8_1 (wrap64 (x9_2+1)))) else (none)) else (none))=some (r1,r2):=by rw [if_pos rfl] at H;exact H
              clear H;have H:=H1;clear H1
              by_cases c26:0≤x8_1
              ·rw [if_pos c26] at H
               have c26b0:decide (0≤x8_1)=true:=zDt c26;clear c26
               by_cases c27:x8_1<(x7_2.length:Int)
               ·rw [if_pos c27] at H
                have c27b0:decide (x8_1<(x7_2.length:Int))=true:=zDt c27;clear c27
                by_cases c28:(rd x7_2 x8_1)=x8_1
                ·rw [if_pos c28] at H
                 have c28b0:((rd x7_2 x8_1) == x8_1)=true:=beq_iff_eq.mpr c28;have c28b1:((rd x7_2 x8_1) != x8_1)=false:=bne_eq_false_iff_eq.mpr c28;clear c28
                 by_cases c29:0≤x9_2
                 ·rw [if_pos c29] at H
                  have c29b0:decide (0≤x9_2)=true:=zDt c29;clear c29
                  by_cases c30:x9_2<(x7_2.length:Int)
                  ·rw [if_pos c30] at H
                   have c30b0:decide (x9_2<(x7_2.length:Int))=true:=zDt c30;clear c30;obtain ⟨y421,hy421⟩:∃ y_:List Int,y_=(x7_2.set (x8_1:Int).toNat (rd x7_2 x9_2)):=⟨_,rfl⟩
                   replace H:(r6_Between.l1 k3 l0 y421 x8_1 (wrap64 (x9_2+1)))=some (r1,r2):=by first|(rw [hy421];with_reducible exact H)|(have H2_:=(Option.bind_some _ _).symm.trans H;rw [hy421];with_reducible exact H2_)|(have H2_:=(Option.bind_some _ _).symm.trans H;with_reducible exact H2_)|with_reducible exact H|(rw [hy421];exact H)|exact H
                   have Ny421:=As0.mk hy421;clear hy421;have H':=As0.mk H;clear H;obtain ⟨Ao32,co32,eo32⟩:=Kd.R_slice HO_7.out;subst eo32;have p419:0≤(x8_1:Int):=zDo (by with_reducible assumption);have q419:x8_1<(x7_2.length:Int):=zDo (by with_reducible assumption);obtain ⟨ad419,e419,hx419_0⟩:=Kd.at_int (Kd.R_reads' HO_7.out).2.2 x8_1 p419 q419;cases e419
                   replace p419:=eq_true p419;replace q419:=eq_true q419;have p420:0≤(x9_2:Int):=zDo (by with_reducible assumption);have q420:x9_2<(x7_2.length:Int):=zDo (by with_reducible assumption);obtain ⟨ad420,e420,hx420_0⟩:=Kd.at_int (Kd.R_reads' HO_7.out).2.2 x9_2 p420 q420;obtain rfl:ad419=ad420:=(by injection e420)
                   replace p420:=eq_true p420;replace q420:=eq_true q420;have p31:0≤(x8_1:Int):=zDo (by with_reducible assumption);have q31:(x8_1:Int)<((x7_2.length:Int):Int):=zDo (by with_reducible assumption);obtain ⟨go31,co31,eo31,gb31,gl31,cl31,HG31⟩:=Kd.R_form HO_7.out (by omega)
                   (first|cases eo31|(injection eo31 with ea_ en_ ec_;(first|subst ea_|(injection ea_ with ea_;subst ea_));subst ec_;clear en_))
                   have GB31:=As0.mk gb31;have GG31:=As0.mk HG31;clear gb31 gl31 HG31
                   (first|simp only [y1v] at hx419_0|skip)
                   (first|simp only [y1v] at hx420_0|skip)
                   obtain ⟨hx31_0,hf31_0⟩:=Kd.R_celln 0 HO_7.out (x8_1:Int) p31 q31;replace p31:=eq_true p31;replace q31:=eq_true q31;have HP33:=Kd.R_putg HO_7.out (x8_1:Int) (rd x7_2 x9_2);go_wp2_with (first|((with_reducible refine y2g (t:=3) (p:=98) rfl ?_);(try (rw [y32 wr];generalize hq_:World.drewN wr _=wr;have n0_:=As0.mk (Kd.R_at hq_ HO_7.out);have n1_:=As0.mk (blk_at hq_ BK412.out);have n2_:=As0.mk (below_at hq_ HB.out);clear hq_ HO_7 BK412 HB;have HO_7:=n0_;have BK412:=n1_;have HB:=n2_;clear n0_ n1_ n2_;(try (have HP33:=Kd.R_putg HO_7.out (x8_1:Int) (rd x7_2 x9_2)))));refine y1y (t:=3) (p:=98) (v:=?vo_w34) (w1:=(wr.setCell ⟨go31,(x8_1:Int).toNat,none⟩ (.int .i64 (rd x7_2 x9_2)))) ?hg ?ho ?hn ?hr ?_;(case ho=>rfl);(case hg=>rfl);(case hn=>rfl);(case hr=>first|(go_simp;done)|(go_simp;rfl));intro w34 hw;have hg:wr.grownBy w34 (some go31):=(by rw [hw];exact HP33.2);have hp_:Kd.R (Kd.int .i64) 3 w34 w.heap.size (fun _=>True) (.slice (some ⟨go31,0,none⟩) x7_2.length co32) y421:=(by rw [hw,Ny421.out];exact HP33.1);clear HP33;have n0_:=As0.mk (hp_);have n1_:=As0.mk (y27 (g:=gb412) (o:=.cells #[.int .i64 t406,.int .i64 t407,.int .i64 t408,.int .i64 t409] 31 (0,0)) (by (with_reducible repeat (first|refine y03 ?_ _|refine blk_drew ?_|refine blk_alloc ?_ _));exact BK412.out) hg (Kd.R_ne HO_7.out BK412.out (by decide)));have n2_:=As0.mk ((by rw [hw];exact y04 (HB.out) GB31.out:Below w.heap.size w w34));clear HO_7;clear BK412;clear HB;have HO_7:=n0_;have BK412:=n1_;have HB:=n2_;clear n0_ n1_ n2_;clear hg hw hp_))
                   repeat (go_quiet (first|((with_reducible refine y2g (t:=3) (p:=98) rfl ?_);(try (rw [y32 wr];generalize hq_:World.drewN wr _=wr;have n0_:=As0.mk (Kd.R_at hq_ HO_7.out);have n1_:=As0.mk (blk_at hq_ BK412.out);have n2_:=As0.mk (below_at hq_ HB.out);clear hq_ HO_7 BK412 HB;have HO_7:=n0_;have BK412:=n1_;have HB:=n2_;clear n0_ n1_ n2_;(try (have HP33:=Kd.R_putg HO_7.out (x8_1:Int) (rd x7_2 x9_2)))));refine y1y (t:=3) (p:=98) (v:=?vo_w34) (w1:=(wr.setCell ⟨go31,(x8_1:Int).toNat,none⟩ (.int .i64 (rd x7_2 x9_2)))) ?hg ?ho ?hn ?hr ?_;(case ho=>rfl);(case hg=>rfl);(case hn=>rfl);(case hr=>first|(go_simp;done)|(go_simp;rfl));intro w34 hw;have hg:wr.grownBy w34 (some go31):=(by rw [hw];exact HP33.2);have hp_:Kd.R (Kd.int .i64) 3 w34 w.heap.size (fun _=>True) (.slice (some ⟨go31,0,none⟩) x7_2.length co32) y421:=(by rw [hw,Ny421.out];exact HP33.1);clear HP33;have n0_:=As0.mk (hp_);have n1_:=As0.mk (y27 (g:=gb412) (o:=.cells #[.int .i64 t406,.int .i64 t407,.int .i64 t408,.int .i64 t409] 31 (0,0)) (by (with_reducible repeat (first|refine y03 ?_ _|refine blk_drew ?_|refine blk_alloc ?_ _));exact BK412.out) hg (Kd.R_ne HO_7.out BK412.out (by decide)));have n2_:=As0.mk ((by rw [hw];exact y04 (HB.out) GB31.out:Below w.heap.size w w34));clear HO_7;clear BK412;clear HB;have HO_7:=n0_;have BK412:=n1_;have HB:=n2_;clear n0_ n1_ n2_;clear hg hw hp_));try go_wp2_with (first|((with_reducible refine y2g (t:=3) (p:=98) rfl ?_);(try (rw [y32 wr];generalize hq_:World.drewN wr _=wr;have n0_:=As0.mk (Kd.R_at hq_ HO_7.out);have n1_:=As0.mk (blk_at hq_ BK412.out);have n2_:=As0.mk (below_at hq_ HB.out);clear hq_ HO_7 BK412 HB;have HO_7:=n0_;have BK412:=n1_;have HB:=n2_;clear n0_ n1_ n2_;(try (have HP33:=Kd.R_putg HO_7.out (x8_1:Int) (rd x7_2 x9_2)))));refine y1y (t:=3) (p:=98) (v:=?vo_w34) (w1:=(wr.setCell ⟨go31,(x8_1:Int).toNat,none⟩ (.int .i64 (rd x7_2 x9_2)))) ?hg ?ho ?hn ?hr ?_;(case ho=>rfl);(case hg=>rfl);(case hn=>rfl);(case hr=>first|(go_simp;done)|(go_simp;rfl));intro w34 hw;have hg:wr.grownBy w34 (some go31):=(by rw [hw];exact HP33.2);have hp_:Kd.R (Kd.int .i64) 3 w34 w.heap.size (fun _=>True) (.slice (some ⟨go31,0,none⟩) x7_2.length co32) y421:=(by rw [hw,Ny421.out];exact HP33.1);clear HP33;have n0_:=As0.mk (hp_);have n1_:=As0.mk (y27 (g:=gb412) (o:=.cells #[.int .i64 t406,.int .i64 t407,.int .i64 t408,.int .i64 t409] 31 (0,0)) (by (with_reducible repeat (first|refine y03 ?_ _|refine blk_drew ?_|refine blk_alloc ?_ _));exact BK412.out) hg (Kd.R_ne HO_7.out BK412.out (by decide)));have n2_:=As0.mk ((by rw [hw];exact y04 (HB.out) GB31.out:Below w.heap.size w w34));clear HO_7;clear BK412;clear HB;have HO_7:=n0_;have BK412:=n1_;have HB:=n2_;clear n0_ n1_ n2_;clear hg hw hp_)))
                   go_roundg k3
                   case measure=>have:=HK1.out;have:=HK2.out;have:=HK3.out;omega
                   case rel=>exact ⟨(y421),(wrap64 (x9_2+1)),(by first|rfl|(simp;done)|(simp [*];done)),H',⟨by have:=HK1.out;have:=HK2.out;have:=HK3.out;omega⟩,⟨by (with_reducible repeat (first|apply Kd.R_alloc|apply Kd.R_drewN|apply Kd.R_drew));exact HO_7.out⟩,⟨by (with_reducible repeat (first|refine y03 ?_ _|refine blk_drew ?_|refine blk_alloc ?_ _));exact BK412.out⟩,⟨by repeat (with_reducible first|exact HB.out|apply y01|apply y00|apply y02|refine y04 ?_ GE412.out)⟩⟩
                  ·rw [if_neg c30] at H
                   exact absurd H (by simp)
                 ·rw [if_neg c29] at H
                  exact absurd H (by simp)
                ·rw [if_neg c28] at H
                 have c28b0:((rd x7_2 x8_1) == x8_1)=false:=beq_eq_false_iff_ne.mpr c28;have c28b1:((rd x7_2 x8_1) != x8_1)=true:=bne_iff_ne.mpr c28;have H':=As0.mk H;clear H;obtain ⟨Ao35,co35,eo35⟩:=Kd.R_slice HO_7.out;subst eo35;have p419:0≤(x8_1:Int):=zDo (by with_reducible assumption);have q419:x8_1<(x7_2.length:Int):=zDo (by with_reducible assumption);obtain ⟨ad419,e419,hx419_0⟩:=Kd.at_int (Kd.R_reads' HO_7.out).2.2 x8_1 p419 q419;cases e419
                 replace p419:=eq_true p419;replace q419:=eq_true q419;go_wp2
                 repeat (go_quiet (fail);try go_wp2)
                 go_roundg k3
                 case measure=>have:=HK1.out;have:=HK2.out;have:=HK3.out;omega
                 case rel=>exact ⟨(x7_2),(wrap64 (x9_2+1)),(by first|rfl|(simp;done)|(simp [*];done)),H',⟨by have:=HK1.out;have:=HK2.out;have:=HK3.out;omega⟩,⟨by (with_reducible repeat (first|apply Kd.R_alloc|apply Kd.R_drewN|apply Kd.R_drew));exact HO_7.out⟩,⟨by (with_reducible repeat (first|refine y03 ?_ _|refine blk_drew ?_|refine blk_alloc ?_ _));exact BK412.out⟩,⟨by repeat (with_reducible first|exact HB.out|apply y01|apply y00|apply y02|refine y04 ?_ GE412.out)⟩⟩
               ·rw [if_neg c27] at H
                exact absurd H (by simp)
              ·rw [if_neg c26] at H
               exact absurd H (by simp)
             ·replace c25:=Bool.eq_false_iff.mpr c25
              subst c25;have H1:(r6_Between.l1 k3 l0 x7_2 x8_1 (wrap64 (x9_2+1)))=some (r1,r2):=by rw [if_neg (show ¬ (false=true) by decide)] at H;exact H
              clear H;have H:=H1;clear H1;have H':=As0.mk H;clear H;go_wp2
              repeat (go_quiet (fail);try go_wp2)
              go_roundg k3
              case measure=>have:=HK1.out;have:=HK2.out;have:=HK3.out;omega
              case rel=>exact ⟨(x7_2),(wrap64 (x9_2+1)),(by first|rfl|(simp;done)|(simp [*];done)),H',⟨by have:=HK1.out;have:=HK2.out;have:=HK3.out;omega⟩,⟨by (with_reducible repeat (first|apply Kd.R_alloc|apply Kd.R_drewN|apply Kd.R_drew));exact HO_7.out⟩,⟨by (with_reducible repeat (first|refine y03 ?_ _|refine blk_drew ?_|refine blk_alloc ?_ _));exact BK412.out⟩,⟨by repeat (with_reducible first|exact HB.out|apply y01|apply y00|apply y02|refine y04 ?_ GE412.out)⟩⟩
         ·rw [if_neg c14] at H
          have c14b0:decide (x9_2<x8_1)=false:=zDf c14;clear c14;have H':=As0.mk H;clear H;go_wp2
          repeat (go_quiet (fail);try go_wp2)
          go_roundg k2
          case measure=>have:=HK1.out;have:=HK2.out;omega
          case rel=>exact ⟨(x7_2),(wrap64 (x8_1+1)),(by first|rfl|(simp;done)|(simp [*];done)),H',⟨by have:=HK1.out;have:=HK2.out;omega⟩,⟨by (with_reducible repeat (first|apply Kd.R_alloc|apply Kd.R_drewN|apply Kd.R_drew));exact HO_7.out⟩,⟨by (with_reducible repeat (first|refine y03 ?_ _|refine blk_drew ?_|refine blk_alloc ?_ _));exact BK412.out⟩,⟨by repeat (with_reducible first|exact HB.out|apply y01|apply y00|apply y02|refine y04 ?_ GE412.out)⟩⟩
      ·rw [if_neg c12] at H
       exact absurd H (by simp)
     ·rw [if_neg c11] at H
      have c11b0:decide (x8_1<(l0.length:Int))=false:=zDf c11;clear c11;replace H:=Option.bind_eq_some_iff.mp H;obtain ⟨t413,A360,H⟩:=H;replace H:(some (t413,0))=some (r1,r2):=H;have A36:=As0.mk A360;clear A360;simp only [Option.some.injEq,Prod.mk.injEq] at H;obtain ⟨rfl,rfl⟩:=H;obtain ⟨Ao37,co37,eo37⟩:=Kd.R_slice HO_7.out;subst eo37;go_wp2_with (first|(go_at_call 55;(with_reducible refine (r6_numbered.calls k1 _ _ x7_1 t413 _ ?side1 ?side2 A36.out).mono ?_);(case side1=>repeat (first|exact (Kd.R_reads' HO_7.out).2.2|(with_reducible refine Kd.C_alloc ?_ _)|(with_reducible refine Kd.C_drewN ?_ _)|(with_reducible refine Kd.C_drew ?_)));(case side2=>exact (Kd.R_reads' HO_7.out).2.1);rintro e w38 ⟨v414,rfl,ho0,hb⟩;have n0_:=As0.mk (Kd.R_elder' (by (with_reducible repeat (first|apply Kd.R_alloc|apply Kd.R_drewN|apply Kd.R_drew));exact HO_7.out) (Kd.R_base ho0) hb);have n1_:=As0.mk (Kd.R_lower (Kd.R_new' ho0 (Kd.R_lt (by (with_reducible repeat (first|apply Kd.R_alloc|apply Kd.R_drewN|apply Kd.R_drew));exact HO_7.out))) (y05 (by repeat (with_reducible first|exact HB.out|apply y01|apply y00|apply y02|refine y04 ?_ GE412.out))));have n2_:=As0.mk (y0h (g:=gb412) (o:=.cells #[.int .i64 t406,.int .i64 t407,.int .i64 t408,.int .i64 t409] 31 (0,0)) (by (with_reducible repeat (first|refine y03 ?_ _|refine blk_drew ?_|refine blk_alloc ?_ _));exact BK412.out) hb);have n3_:=As0.mk (y07 (by repeat (with_reducible first|exact HB.out|apply y01|apply y00|apply y02|refine y04 ?_ GE412.out)) hb);clear HO_7;clear BK412;clear HB;have HO_7:=n0_;have HO415:=n1_;have BK412:=n2_;have HB:=n3_;clear n0_ n1_ n2_ n3_;(try clear hb);(try clear hb2);(try clear hk);(try clear hi);(try clear ho0)))
      repeat (go_quiet (first|(go_at_call 55;(with_reducible refine (r6_numbered.calls k1 _ _ x7_1 t413 _ ?side1 ?side2 A36.out).mono ?_);(case side1=>repeat (first|exact (Kd.R_reads' HO_7.out).2.2|(with_reducible refine Kd.C_alloc ?_ _)|(with_reducible refine Kd.C_drewN ?_ _)|(with_reducible refine Kd.C_drew ?_)));(case side2=>exact (Kd.R_reads' HO_7.out).2.1);rintro e w38 ⟨v414,rfl,ho0,hb⟩;have n0_:=As0.mk (Kd.R_elder' (by (with_reducible repeat (first|apply Kd.R_alloc|apply Kd.R_drewN|apply Kd.R_drew));exact HO_7.out) (Kd.R_base ho0) hb);have n1_:=As0.mk (Kd.R_lower (Kd.R_new' ho0 (Kd.R_lt (by (with_reducible repeat (first|apply Kd.R_alloc|apply Kd.R_drewN|apply Kd.R_drew));exact HO_7.out))) (y05 (by repeat (with_reducible first|exact HB.out|apply y01|apply y00|apply y02|refine y04 ?_ GE412.out))));have n2_:=As0.mk (y0h (g:=gb412) (o:=.cells #[.int .i64 t406,.int .i64 t407,.int .i64 t408,.int .i64 t409] 31 (0,0)) (by (with_reducible repeat (first|refine y03 ?_ _|refine blk_drew ?_|refine blk_alloc ?_ _));exact BK412.out) hb);have n3_:=As0.mk (y07 (by repeat (with_reducible first|exact HB.out|apply y01|apply y00|apply y02|refine y04 ?_ GE412.out)) hb);clear HO_7;clear BK412;clear HB;have HO_7:=n0_;have HO415:=n1_;have BK412:=n2_;have HB:=n3_;clear n0_ n1_ n2_ n3_;(try clear hb);(try clear hb2);(try clear hk);(try clear hi);(try clear ho0)));try go_wp2_with (first|(go_at_call 55;(with_reducible refine (r6_numbered.calls k1 _ _ x7_1 t413 _ ?side1 ?side2 A36.out).mono ?_);(case side1=>repeat (first|exact (Kd.R_reads' HO_7.out).2.2|(with_reducible refine Kd.C_alloc ?_ _)|(with_reducible refine Kd.C_drewN ?_ _)|(with_reducible refine Kd.C_drew ?_)));(case side2=>exact (Kd.R_reads' HO_7.out).2.1);rintro e w38 ⟨v414,rfl,ho0,hb⟩;have n0_:=As0.mk (Kd.R_elder' (by (with_reducible repeat (first|apply Kd.R_alloc|apply Kd.R_drewN|apply Kd.R_drew));exact HO_7.out) (Kd.R_base ho0) hb);have n1_:=As0.mk (Kd.R_lower (Kd.R_new' ho0 (Kd.R_lt (by (with_reducible repeat (first|apply Kd.R_alloc|apply Kd.R_drewN|apply Kd.R_drew));exact HO_7.out))) (y05 (by repeat (with_reducible first|exact HB.out|apply y01|apply y00|apply y02|refine y04 ?_ GE412.out))));have n2_:=As0.mk (y0h (g:=gb412) (o:=.cells #[.int .i64 t406,.int .i64 t407,.int .i64 t408,.int .i64 t409] 31 (0,0)) (by (with_reducible repeat (first|refine y03 ?_ _|refine blk_drew ?_|refine blk_alloc ?_ _));exact BK412.out) hb);have n3_:=As0.mk (y07 (by repeat (with_reducible first|exact HB.out|apply y01|apply y00|apply y02|refine y04 ?_ GE412.out)) hb);clear HO_7;clear BK412;clear HB;have HO_7:=n0_;have HO415:=n1_;have BK412:=n2_;have HB:=n3_;clear n0_ n1_ n2_ n3_;(try clear hb);(try clear hb2);(try clear hk);(try clear hi);(try clear ho0))))
      go_ret2
      exact ⟨_,by first|rfl|(simp [y0a,y09]<;>rfl)|(simp [*,y0a,y09]<;>rfl),by (with_reducible repeat (first|apply Kd.R_alloc|apply Kd.R_drewN|apply Kd.R_drew));exact Kd.R_mono HO415.out (fun _ hk=>trivial),by repeat (with_reducible first|exact HB.out|apply y01|apply y00|apply y02|refine y04 ?_ GE412.out)⟩
 ·rw [if_neg c3] at H
  have c3b0:(t411 == 0)=false:=beq_eq_false_iff_ne.mpr c3;have c3b1:(t411 != 0)=true:=bne_iff_ne.mpr c3;simp only [Option.some.injEq,Prod.mk.injEq] at H;obtain ⟨rfl,rfl⟩:=H;go_enter Tra.func26,Tra.ntmps26
  go_wp2_with (first|(go_at_call 24;(with_reducible refine (r6_Crossed.calls k _ _ l0 t406 t407 t408 t409 t410 t411 _ ?side1 ?side2 A2.out).mono ?_);(case side1=>repeat (first|exact HR0.out|(with_reducible refine Kd.C_alloc ?_ _)|(with_reducible refine Kd.C_drewN ?_ _)|(with_reducible refine Kd.C_drew ?_)));(case side2=>exact HC0.out);rintro e w39 ⟨rfl,hb⟩;have n0_:=As0.mk (y07 (by repeat (with_reducible first|exact HB.out|apply y01|apply y00|apply y02)) hb);clear HB;have HB:=n0_;clear n0_;(try clear hb);(try clear hb2);(try clear hk);(try clear hi))|((with_reducible refine y0i (N:=4) rfl ?_);refine y0q ?hg (N:=4) ?hd (cs:=#[.int .i64 0,.int .i64 0,.int .i64 0,.int .i64 0]) (t:=31) ?hr ?_;(case hd=>rfl);(case hg=>rfl);(case hr=>first|(go_simp;done)|(go_simp;rfl));intro gb412 hg w40 hbox hb;have n0_:=As0.mk (y07 (by repeat (with_reducible first|exact HB.out|apply y01|apply y00|apply y02)) hb);have n1_:=As0.mk (hbox);have n2_:=As0.mk ((by rw [hg];exact (y05 (by repeat (with_reducible first|exact HB.out|apply y01|apply y00|apply y02))):w.heap.size≤gb412));have n3_:=As0.mk ((by rw [hg];exact (y05 (by repeat (with_reducible first|exact HB.out|apply y01|apply y00|apply y02))):w.heap.size≤gb412));clear HB;have HB:=n0_;have BK412:=n1_;have GW412:=n2_;have GE412:=n3_;clear n0_ n1_ n2_ n3_;clear hb hbox hg;have hcz41_0:w40.cell? ⟨gb412,0,none⟩=some (.int .i64 0):=(y08 BK412.out 0).trans rfl;have hcz41_1:w40.cell? ⟨gb412,1,none⟩=some (.int .i64 0):=(y08 BK412.out 1).trans rfl;have hcz41_2:w40.cell? ⟨gb412,2,none⟩=some (.int .i64 0):=(y08 BK412.out 2).trans rfl;have hcz41_3:w40.cell? ⟨gb412,3,none⟩=some (.int .i64 0):=(y08 BK412.out 3).trans rfl;have hfz41_0:=y06 BK412.out 0;have hfz41_1:=y06 BK412.out 1;have hfz41_2:=y06 BK412.out 2;have hfz41_3:=y06 BK412.out 3))
  repeat (go_quiet (first|(go_at_call 24;(with_reducible refine (r6_Crossed.calls k _ _ l0 t406 t407 t408 t409 t410 t411 _ ?side1 ?side2 A2.out).mono ?_);(case side1=>repeat (first|exact HR0.out|(with_reducible refine Kd.C_alloc ?_ _)|(with_reducible refine Kd.C_drewN ?_ _)|(with_reducible refine Kd.C_drew ?_)));(case side2=>exact HC0.out);rintro e w39 ⟨rfl,hb⟩;have n0_:=As0.mk (y07 (by repeat (with_reducible first|exact HB.out|apply y01|apply y00|apply y02)) hb);clear HB;have HB:=n0_;clear n0_;(try clear hb);(try clear hb2);(try clear hk);(try clear hi))|((with_reducible refine y0i (N:=4) rfl ?_);refine y0q ?hg (N:=4) ?hd (cs:=#[.int .i64 0,.int .i64 0,.int .i64 0,.int .i64 0]) (t:=31) ?hr ?_;(case hd=>rfl);(case hg=>rfl);(case hr=>first|(go_simp;done)|(go_simp;rfl));intro gb412 hg w40 hbox hb;have n0_:=As0.mk (y07 (by repeat (with_reducible first|exact HB.out|apply y01|apply y00|apply y02)) hb);have n1_:=As0.mk (hbox);have n2_:=As0.mk ((by rw [hg];exact (y05 (by repeat (with_reducible first|exact HB.out|apply y01|apply y00|apply y02))):w.heap.size≤gb412));have n3_:=As0.mk ((by rw [hg];exact (y05 (by repeat (with_reducible first|exact HB.out|apply y01|apply y00|apply y02))):w.heap.size≤gb412));clear HB;have HB:=n0_;have BK412:=n1_;have GW412:=n2_;have GE412:=n3_;clear n0_ n1_ n2_ n3_;clear hb hbox hg;have hcz41_0:w40.cell? ⟨gb412,0,none⟩=some (.int .i64 0):=(y08 BK412.out 0).trans rfl;have hcz41_1:w40.cell? ⟨gb412,1,none⟩=some (.int .i64 0):=(y08 BK412.out 1).trans rfl;have hcz41_2:w40.cell? ⟨gb412,2,none⟩=some (.int .i64 0):=(y08 BK412.out 2).trans rfl;have hcz41_3:w40.cell? ⟨gb412,3,none⟩=some (.int .i64 0):=(y08 BK412.out 3).trans rfl;have hfz41_0:=y06 BK412.out 0;have hfz41_1:=y06 BK412.out 1;have hfz41_2:=y06 BK412.out 2;have hfz41_3:=y06 BK412.out 3));try go_wp2_with (first|(go_at_call 24;(with_reducible refine (r6_Crossed.calls k _ _ l0 t406 t407 t408 t409 t410 t411 _ ?side1 ?side2 A2.out).mono ?_);(case side1=>repeat (first|exact HR0.out|(with_reducible refine Kd.C_alloc ?_ _)|(with_reducible refine Kd.C_drewN ?_ _)|(with_reducible refine Kd.C_drew ?_)));(case side2=>exact HC0.out);rintro e w39 ⟨rfl,hb⟩;have n0_:=As0.mk (y07 (by repeat (with_reducible first|exact HB.out|apply y01|apply y00|apply y02)) hb);clear HB;have HB:=n0_;clear n0_;(try clear hb);(try clear hb2);(try clear hk);(try clear hi))|((with_reducible refine y0i (N:=4) rfl ?_);refine y0q ?hg (N:=4) ?hd (cs:=#[.int .i64 0,.int .i64 0,.int .i64 0,.int .i64 0]) (t:=31) ?hr ?_;(case hd=>rfl);(case hg=>rfl);(case hr=>first|(go_simp;done)|(go_simp;rfl));intro gb412 hg w40 hbox hb;have n0_:=As0.mk (y07 (by repeat (with_reducible first|exact HB.out|apply y01|apply y00|apply y02)) hb);have n1_:=As0.mk (hbox);have n2_:=As0.mk ((by rw [hg];exact (y05 (by repeat (with_reducible first|exact HB.out|apply y01|apply y00|apply y02))):w.heap.size≤gb412));have n3_:=As0.mk ((by rw [hg];exact (y05 (by repeat (with_reducible first|exact HB.out|apply y01|apply y00|apply y02))):w.heap.size≤gb412));clear HB;have HB:=n0_;have BK412:=n1_;have GW412:=n2_;have GE412:=n3_;clear n0_ n1_ n2_ n3_;clear hb hbox hg;have hcz41_0:w40.cell? ⟨gb412,0,none⟩=some (.int .i64 0):=(y08 BK412.out 0).trans rfl;have hcz41_1:w40.cell? ⟨gb412,1,none⟩=some (.int .i64 0):=(y08 BK412.out 1).trans rfl;have hcz41_2:w40.cell? ⟨gb412,2,none⟩=some (.int .i64 0):=(y08 BK412.out 2).trans rfl;have hcz41_3:w40.cell? ⟨gb412,3,none⟩=some (.int .i64 0):=(y08 BK412.out 3).trans rfl;have hfz41_0:=y06 BK412.out 0;have hfz41_1:=y06 BK412.out 1;have hfz41_2:=y06 BK412.out 2;have hfz41_3:=y06 BK412.out 3)))
  go_ret2
  exact ⟨_,by first|rfl|(simp [y0a,y09]<;>rfl)|(simp [*,y0a,y09]<;>rfl),by first|exact Kd.R_nil _ _ _ _ _|exact Kd.N_nil _ _ _ _ _|exact Kd.V_nil _ _ _ _ _|exact Kd.Q_nil _ _ _ _ _|exact Kd.S_nil _ _ _ _ _,by repeat (with_reducible first|exact HB.out|apply y01|apply y00|apply y02|refine y04 ?_ GE412.out)⟩
end Go.Proofs.Ytdhgeondbnpeoaa.P
namespace Go.Proofs.Ytdhgeondbnpeoaa.P
open Go.RowKit Go.Proofs.Yw.Wd Go.Proofs.Yw.La Go.Proofs.Yw.Mo
attribute [local go_sem] y13 y11 y18 y17 y0t y0s y12 y10
def mobs_Around.f (k:Nat) (l0:List Int) (a1:Int):Option (List Int × Int):=(mobs_read.f k (([l0]:List (List Int)))).bind fun t427=>(if t427=0 then (if (l0.length:Int)=0 then (some (([]:List Int),0)) else (if 0≤(Int.tmod (wrap64 ((Int.tmod a1 (l0.length:Int))+(l0.length:Int))) (l0.length:Int)) then (if (Int.tmod (wrap64 ((Int.tmod a1 (l0.length:Int))+(l0.length:Int))) (l0.length:Int))≤(l0.length:Int) then ((slices_Clone_int_int.f (l0.drop ((Int.tmod (wrap64 ((Int.tmod a1 (l0.length:Int))+(l0.length:Int))) (l0.length:Int)):Int).toNat)).bind fun t433=>((some (l0.take ((Int.tmod (wrap64 ((Int.tmod a1 (l0.length:Int))+(l0.length:Int))) (l0.length:Int)):Int).toNat:List Int)).bind fun y436=>(if t433.length+y436.length<17592186044416 then ((mobs_number_int.f (t433 ++ y436)).bind fun t444=>(some (t444,0))) else (none)))) else (none)) else (none))) else (some (([]:List Int),t427)))
def mobs_Around.T7:Bool × List (List Nat × List Nat):=(true,[([],[]),([],[]),([0,1],[0,1]),([2],[2]),([],[]),([],[]),([4,5],[4,5]),([3,6,3],[3,6]),([7,7],[7]),([8,8,0,1,2,3,4,5,6,7,8],[8]),([9,0,1,2,3,4,5,6,7,8,9],[])])
def mobs_Around.B7:List Nat:=[0,0,3,7,0,0,48,127,255,511,1023]
theorem mobs_Around.tab7:rtab .any (yhg Tra.f28 7)=mobs_Around.T7:=by kernel_rfl
theorem mobs_Around.bits7:y3h mobs_Around.T7.2 mobs_Around.B7=true:=by kernel_rfl
theorem mobs_Around.calls (k:Nat) (P0_:Nat->Prop) (A0:Option Addr) (c0:Nat) (l0:List Int) (a1:Int) (r1:List Int) (r2:Int) (w:World) (hs0:Kd.V (Kd.int .i64) 3 w w.heap.size (fun k_=>P0_ k_) (.slice A0 l0.length c0) l0) (h:mobs_Around.f k l0 a1=some (r1,r2)) :
  Calls Tra.prog 28 #[.slice A0 l0.length c0,.int .i64 a1] w fun e w'=>∃ v0_:Value,e=.returned (.tuple #[v0_,.int .i64 r2])∧Kd.R (Kd.int .i64) 3 w' w.heap.size (fun k_=>(w.heap.size≤k_)) v0_ r1∧Below w.heap.size w w':=by
 have HO0:=As0.mk (show Kd.V (Kd.int .i64) 3 w w.heap.size (fun k_=>(P0_ k_∨w.heap.size≤k_)) (.slice A0 l0.length c0) l0 from Kd.V_mono hs0 (fun k_ hk=>.inl hk));have HB:=As0.mk (Below.refl w.heap.size w);have H:((mobs_read.f k (([l0]:List (List Int)))).bind fun t427=>(if t427=0 then (if (l0.length:Int)=0 then (some (([]:List Int),0)) else (if 0≤(Int.tmod (wrap64 ((Int.tmod a1 (l0.length:Int))+(l0.length:Int))) (l0.length:Int)) then (if (Int.tmod (wrap64 ((Int.tmod a1 (l0.length:Int))+(l0.length:Int))) (l0.length:Int))≤(l0.length:Int) then ((slices_Clone_int_int.f (l0.drop ((Int.tmod (wrap64 ((Int.tmod a1 (l0.length:Int))+(l0.length:Int))) (l0.length:Int)):Int).toNat)).bind fun t433=>((some (l0.take ((Int.tmod (wrap64 ((Int.tmod a1 (l0.length:Int))+(l0.length:Int))) (l0.length:Int)):Int).toNat:List Int)).bind fun y436=>(if t433.length+y436.length<17592186044416 then ((mobs_number_int.f (t433 ++ y436)).bind fun t444=>(some (t444,0))) else (none)))) else (none)) else (none))) else (some (([]:List Int),t427))))=some (r1,r2):=h;clear h;obtain ⟨y424,hy424⟩:∃ y_:List (List Int),y_=(([l0]:List (List Int))):=⟨_,rfl⟩
 replace H:((mobs_read.f k y424).bind fun t427=>(if t427=0 then (if (l0.length:Int)=0 then (some (([]:List Int),0)) else (if 0≤(Int.tmod (wrap64 ((Int.tmod a1 (l0.length:Int))+(l0.length:Int))) (l0.length:Int)) then (if (Int.tmod (wrap64 ((Int.tmod a1 (l0.length:Int))+(l0.length:Int))) (l0.length:Int))≤(l0.length:Int) then ((slices_Clone_int_int.f (l0.drop ((Int.tmod (wrap64 ((Int.tmod a1 (l0.length:Int))+(l0.length:Int))) (l0.length:Int)):Int).toNat)).bind fun t433=>((some (l0.take ((Int.tmod (wrap64 ((Int.tmod a1 (l0.length:Int))+(l0.length:Int))) (l0.length:Int)):Int).toNat:List Int)).bind fun y436=>(if t433.length+y436.length<17592186044416 then ((mobs_number_int.f (t433 ++ y436)).bind fun t444=>(some (t444,0))) else (none)))) else (none)) else (none))) else (some (([]:List Int),t427))))=some (r1,r2):=by first|(rw [hy424];with_reducible exact H)|(have H2_:=(Option.bind_some _ _).symm.trans H;rw [hy424];with_reducible exact H2_)|(have H2_:=(Option.bind_some _ _).symm.trans H;with_reducible exact H2_)|with_reducible exact H|(rw [hy424];exact H)|exact H
 have Ny424:=As0.mk hy424;clear hy424;replace H:=Option.bind_eq_some_iff.mp H;obtain ⟨t427,A30,H⟩:=H;replace H:(if t427=0 then (if (l0.length:Int)=0 then (some (([]:List Int),0)) else (if 0≤(Int.tmod (wrap64 ((Int.tmod a1 (l0.length:Int))+(l0.length:Int))) (l0.length:Int)) then (if (Int.tmod (wrap64 ((Int.tmod a1 (l0.length:Int))+(l0.length:Int))) (l0.length:Int))≤(l0.length:Int) then ((slices_Clone_int_int.f (l0.drop ((Int.tmod (wrap64 ((Int.tmod a1 (l0.length:Int))+(l0.length:Int))) (l0.length:Int)):Int).toNat)).bind fun t433=>((some (l0.take ((Int.tmod (wrap64 ((Int.tmod a1 (l0.length:Int))+(l0.length:Int))) (l0.length:Int)):Int).toNat:List Int)).bind fun y436=>(if t433.length+y436.length<17592186044416 then ((mobs_number_int.f (t433 ++ y436)).bind fun t444=>(some (t444,0))) else (none)))) else (none)) else (none))) else (some (([]:List Int),t427)))=some (r1,r2):=H;have A3:=As0.mk A30;clear A30
 by_cases c4:t427=0
 ·rw [if_pos c4] at H
  have c4b0:(t427 == 0)=true:=beq_iff_eq.mpr c4;have c4b1:(t427 != 0)=false:=bne_eq_false_iff_eq.mpr c4;clear c4
  by_cases c5:(l0.length:Int)=0
  ·rw [if_pos c5] at H
   have c5b0:((l0.length:Int) == 0)=true:=beq_iff_eq.mpr c5;have c5b1:((l0.length:Int) != 0)=false:=bne_eq_false_iff_eq.mpr c5;clear c5;simp only [Option.some.injEq,Prod.mk.injEq] at H;obtain ⟨rfl,rfl⟩:=H;go_enter Tra.func28,Tra.ntmps28
   go_wp2_with (first|((with_reducible refine y0i (N:=9) rfl ?_);refine Kd.N_lit (Kd.slice 3 (Kd.int .i64)) _ 29 ?hg (N':=9) ?hd (xs:=([l0]:List (List Int))) (inner:=[.slice A0 l0.length c0]) (ok:=(fun k_=>(P0_ k_∨w.heap.size≤k_))) (okp:=(fun k_=>(P0_ k_∨w.heap.size≤k_))) ?hr ?hp (fun _ hk=>hk) ((show ∀ k_,w.heap.size≤k_->(fun k_=>(P0_ k_∨w.heap.size≤k_)) k_ from fun k_ hk=>(.inr (Nat.le_trans (y05 (by repeat (with_reducible first|exact HB.out|apply y01|apply y00|apply y02))) hk))) _ (zLe _)) (Below.refl _ _) (zLe _) (by simp) ?_;(case hd=>rfl);(case hg=>rfl);(case hr=>first|(go_simp;done)|(go_simp;rfl));(case hp=>exact (Reps.one (show Kd.FK (Kd.slice 3 (Kd.int .i64)) _ _ l0 [.slice A0 l0.length c0] from (Kd.FK_slice_mk (Kd.V_reads' (Kd.V_mono (ok':=(fun k_=>(P0_ k_∨w.heap.size≤k_))) (HO0.out) (fun k_ hk=>hk))).2.1 (Kd.V_F (Kd.V_mono (ok':=(fun k_=>(P0_ k_∨w.heap.size≤k_))) (HO0.out) (fun k_ hk=>hk))))) (Reps.none _ _)));intro v425 w6 ho7 hb hg_ hnew_;clear hg_ hnew_;(first|rw [← Ny424.out] at ho7|(simp only [Int.reduceToNat] at ho7;rw [← Ny424.out] at ho7));have n0_:=As0.mk (Kd.V_elder' (by (with_reducible repeat (first|apply Kd.V_alloc|apply Kd.V_drewN|apply Kd.V_drew));exact HO0.out) (Kd.N_base ho7) hb);have n1_:=As0.mk (Kd.N_lower ho7 (y05 (by repeat (with_reducible first|exact HB.out|apply y01|apply y00|apply y02))));have n2_:=As0.mk (y07 (by repeat (with_reducible first|exact HB.out|apply y01|apply y00|apply y02)) hb);clear HO0;clear HB;have HO0:=n0_;have HO426:=n1_;have HB:=n2_;clear n0_ n1_ n2_;clear hb ho7;obtain ⟨Ao8,co8,eo8⟩:=Kd.N_slice HO426.out;subst eo8)|((with_reducible refine y0d (f:=49) rfl ?_);refine y0m (some 10) rfl rfl Tra.func49 (by kernel_rfl) rfl #[.slice Ao8 y424.length co8] rfl (by (try simp only [List.map_toArray,List.map_cons,List.map_nil]);first|done|rfl|(simp only [List.length_drop,List.length_take];rfl)) ?_;(with_reducible refine (mobs_read.calls k _ _ y424 t427 _ ?side1 ?side2 A3.out).mono ?_);(case side1=>repeat (first|exact (Kd.N_reads' HO426.out).2.2|(with_reducible refine Kd.C_alloc ?_ _)|(with_reducible refine Kd.C_drewN ?_ _)|(with_reducible refine Kd.C_drew ?_)));(case side2=>exact (Kd.N_reads' HO426.out).2.1);rintro e w9 ⟨rfl,hb⟩;refine ⟨_,rfl,?_⟩;have n0_:=As0.mk (Kd.V_below (by (with_reducible repeat (first|apply Kd.V_alloc|apply Kd.V_drewN|apply Kd.V_drew));exact HO0.out) hb);have n1_:=As0.mk (Kd.N_below (by (with_reducible repeat (first|apply Kd.N_alloc|apply Kd.N_drewN|apply Kd.N_drew));exact HO426.out) hb);have n2_:=As0.mk (y07 (by repeat (with_reducible first|exact HB.out|apply y01|apply y00|apply y02)) hb);clear HO0;clear HO426;clear HB;have HO0:=n0_;have HO426:=n1_;have HB:=n2_;clear n0_ n1_ n2_;(try clear hb);(try clear hb2);(try clear hk);(try clear hi)))
   go_ret2
   exact ⟨_,by first|rfl|(simp [y0a,y09]<;>rfl)|(simp [*,y0a,y09]<;>rfl),by first|exact Kd.R_nil _ _ _ _ _|exact Kd.N_nil _ _ _ _ _|exact Kd.V_nil _ _ _ _ _|exact Kd.Q_nil _ _ _ _ _|exact Kd.S_nil _ _ _ _ _,by repeat (with_reducible first|exact HB.out|apply y01|apply y00|apply y02)⟩
  ·rw [if_neg c5] at H
   have c5b0:((l0.length:Int) == 0)=false:=beq_eq_false_iff_ne.mpr c5;have c5b1:((l0.length:Int) != 0)=true:=bne_iff_ne.mpr c5;have c5b2:¬ (l0=[]):=fun h_=>c5 (by rw [h_];rfl)
   obtain ⟨ji10,hji10⟩:∃ j_:Int,(Int.tmod (wrap64 ((Int.tmod a1 (l0.length:Int))+(l0.length:Int))) (l0.length:Int))=j_:=⟨_,rfl⟩
   replace H:(if 0≤(ji10) then (if (ji10)≤(l0.length:Int) then ((slices_Clone_int_int.f (l0.drop ((ji10):Int).toNat)).bind fun t433=>((some (l0.take ((ji10):Int).toNat:List Int)).bind fun y436=>(if t433.length+y436.length<17592186044416 then ((mobs_number_int.f (t433 ++ y436)).bind fun t444=>(some (t444,0))) else (none)))) else (none)) else (none))=some (r1,r2):=by first|(rw [hji10] at H;exact H)|(simp only [hji10] at H ⊢;exact H)
   (try rw [hji10] at A3)
   by_cases c11:0≤(ji10)
   ·rw [if_pos c11] at H
    have c11b0:=eq_true c11;have c11b1:decide (0≤(ji10))=true:=zDt c11;clear c11
    by_cases c12:(ji10)≤(l0.length:Int)
    ·rw [if_pos c12] at H
     have c12b0:=eq_true c12;have c12b1:decide ((ji10)≤(l0.length:Int))=true:=zDt c12;clear c12;obtain ⟨y428,hy428⟩:∃ y_:List Int,y_=(l0.drop ((ji10):Int).toNat):=⟨_,rfl⟩
     replace H:((slices_Clone_int_int.f y428).bind fun t433=>((some (l0.take ((ji10):Int).toNat:List Int)).bind fun y436=>(if t433.length+y436.length<17592186044416 then ((mobs_number_int.f (t433 ++ y436)).bind fun t444=>(some (t444,0))) else (none))))=some (r1,r2):=by first|(rw [hy428];with_reducible exact H)|(have H2_:=(Option.bind_some _ _).symm.trans H;rw [hy428];with_reducible exact H2_)|(have H2_:=(Option.bind_some _ _).symm.trans H;with_reducible exact H2_)|with_reducible exact H|(rw [hy428];exact H)|exact H
     have Ny428:=As0.mk hy428;clear hy428;replace H:=Option.bind_eq_some_iff.mp H;obtain ⟨t433,A130,H⟩:=H;replace H:((some (l0.take ((ji10):Int).toNat:List Int)).bind fun y436=>(if t433.length+y436.length<17592186044416 then ((mobs_number_int.f (t433 ++ y436)).bind fun t444=>(some (t444,0))) else (none)))=some (r1,r2):=H;have A13:=As0.mk A130;clear A130;have c14b0:=eq_true (zDo (by with_reducible assumption):0≤(ji10));have c15b0:=eq_true (zDo (by with_reducible assumption):(ji10)≤(l0.length:Int));obtain ⟨y436,hy436⟩:∃ y_:List Int,y_=(l0.take ((ji10):Int).toNat):=⟨_,rfl⟩
     replace H:(if t433.length+y436.length<17592186044416 then ((mobs_number_int.f (t433 ++ y436)).bind fun t444=>(some (t444,0))) else (none))=some (r1,r2):=by first|(rw [hy436];with_reducible exact H)|(have H2_:=(Option.bind_some _ _).symm.trans H;rw [hy436];with_reducible exact H2_)|(have H2_:=(Option.bind_some _ _).symm.trans H;with_reducible exact H2_)|with_reducible exact H|(rw [hy436];exact H)|exact H
     have Ny436:=As0.mk hy436;clear hy436
     by_cases c16:t433.length+y436.length<17592186044416
     ·rw [if_pos c16] at H
      have LMc16:=As0.mk c16;clear c16;obtain ⟨y441,hy441⟩:∃ y_:List Int,y_=(t433 ++ y436):=⟨_,rfl⟩
      replace H:((mobs_number_int.f y441).bind fun t444=>(some (t444,0)))=some (r1,r2):=by first|(rw [hy441];with_reducible exact H)|(have H2_:=(Option.bind_some _ _).symm.trans H;rw [hy441];with_reducible exact H2_)|(have H2_:=(Option.bind_some _ _).symm.trans H;with_reducible exact H2_)|with_reducible exact H|(rw [hy441];exact H)|exact H
      have Ny441:=As0.mk hy441;clear hy441;replace H:=Option.bind_eq_some_iff.mp H;obtain ⟨t444,A170,H⟩:=H;replace H:(some (t444,0))=some (r1,r2):=H;have A17:=As0.mk A170;clear A170;simp only [Option.some.injEq,Prod.mk.injEq] at H;obtain ⟨rfl,rfl⟩:=H;go_enter Tra.func28,Tra.ntmps28
      try go_wp2_with (first|((with_reducible refine y0i (N:=9) rfl ?_);refine Kd.N_lit (Kd.slice 3 (Kd.int .i64)) _ 29 ?hg (N':=9) ?hd (xs:=([l0]:List (List Int))) (inner:=[.slice A0 l0.length c0]) (ok:=(fun k_=>(P0_ k_∨w.heap.size≤k_))) (okp:=(fun k_=>(P0_ k_∨w.heap.size≤k_))) ?hr ?hp (fun _ hk=>hk) ((show ∀ k_,w.heap.size≤k_->(fun k_=>(P0_ k_∨w.heap.size≤k_)) k_ from fun k_ hk=>(.inr (Nat.le_trans (y05 (by repeat (with_reducible first|exact HB.out|apply y01|apply y00|apply y02))) hk))) _ (zLe _)) (Below.refl _ _) (zLe _) (by simp) ?_;(case hd=>rfl);(case hg=>rfl);(case hr=>first|(go_simp;done)|(go_simp;rfl));(case hp=>exact (Reps.one (show Kd.FK (Kd.slice 3 (Kd.int .i64)) _ _ l0 [.slice A0 l0.length c0] from (Kd.FK_slice_mk (Kd.V_reads' (Kd.V_mono (ok':=(fun k_=>(P0_ k_∨w.heap.size≤k_))) (HO0.out) (fun k_ hk=>hk))).2.1 (Kd.V_F (Kd.V_mono (ok':=(fun k_=>(P0_ k_∨w.heap.size≤k_))) (HO0.out) (fun k_ hk=>hk))))) (Reps.none _ _)));intro v425 w18 ho19 hb hg_ hnew_;clear hg_ hnew_;(first|rw [← Ny424.out] at ho19|(simp only [Int.reduceToNat] at ho19;rw [← Ny424.out] at ho19));have n0_:=As0.mk (Kd.V_elder' (by (with_reducible repeat (first|apply Kd.V_alloc|apply Kd.V_drewN|apply Kd.V_drew));exact HO0.out) (Kd.N_base ho19) hb);have n1_:=As0.mk (Kd.N_lower ho19 (y05 (by repeat (with_reducible first|exact HB.out|apply y01|apply y00|apply y02))));have n2_:=As0.mk (y07 (by repeat (with_reducible first|exact HB.out|apply y01|apply y00|apply y02)) hb);clear HO0;clear HB;have HO0:=n0_;have HO426:=n1_;have HB:=n2_;clear n0_ n1_ n2_;clear hb ho19;obtain ⟨Ao20,co20,eo20⟩:=Kd.N_slice HO426.out;subst eo20)|((with_reducible refine y0d (f:=49) rfl ?_);refine y0m (some 10) rfl rfl Tra.func49 (by kernel_rfl) rfl #[.slice Ao20 y424.length co20] rfl (by (try simp only [List.map_toArray,List.map_cons,List.map_nil]);first|done|rfl|(simp only [List.length_drop,List.length_take];rfl)) ?_;(with_reducible refine (mobs_read.calls k _ _ y424 t427 _ ?side1 ?side2 A3.out).mono ?_);(case side1=>repeat (first|exact (Kd.N_reads' HO426.out).2.2|(with_reducible refine Kd.C_alloc ?_ _)|(with_reducible refine Kd.C_drewN ?_ _)|(with_reducible refine Kd.C_drew ?_)));(case side2=>exact (Kd.N_reads' HO426.out).2.1);rintro e w21 ⟨rfl,hb⟩;refine ⟨_,rfl,?_⟩;have n0_:=As0.mk (Kd.V_below (by (with_reducible repeat (first|apply Kd.V_alloc|apply Kd.V_drewN|apply Kd.V_drew));exact HO0.out) hb);have n1_:=As0.mk (Kd.N_below (by (with_reducible repeat (first|apply Kd.N_alloc|apply Kd.N_drewN|apply Kd.N_drew));exact HO426.out) hb);have n2_:=As0.mk (y07 (by repeat (with_reducible first|exact HB.out|apply y01|apply y00|apply y02)) hb);clear HO0;clear HO426;clear HB;have HO0:=n0_;have HO426:=n1_;have HB:=n2_;clear n0_ n1_ n2_;(try clear hb);(try clear hb2);(try clear hk);(try clear hi)))
      have n0_:=As0.mk (Kd.V_drew HO0.out);have n1_:=As0.mk (Kd.N_drew HO426.out);have n2_:=As0.mk (y02 HB.out);clear HO0;clear HO426;clear HB;have HO0:=n0_;have HO426:=n1_;have HB:=n2_;clear n0_ n1_ n2_;have q23:((ji10):Int)≤((l0.length:Int):Int):=zDo (by with_reducible assumption);obtain ⟨i023,hi023,_,hsz23,_⟩:=info_parts info3;have hroom23:l0.length≤c0:=(Kd.V_reads' HO0.out).2.1;have hC23:Kd.F (Kd.int .i64) _ _ A0 l0.length l0:=(Kd.V_at (base:=w.heap.size) HO0.out).2.2;have q023:(0:Int)≤((ji10):Int):=zDo (by with_reducible assumption);have hcut23:=yja (P:=Tra.prog) 29 3 .i64 Tra.underlying29 hi023 1 hsz23 A0 l0.length c0 (ji10) q023 q23;have hr23:=Kd.F_cut (m:=((ji10):Int).toNat) (c:=c0) hC23 (by omega) hroom23;obtain ⟨A23,hA23⟩:∃ A1,A1=(if c0=((ji10):Int).toNat then A0 else (A0:Option Addr).map (·.add (((ji10):Int).toNat * 1))):=⟨_,rfl⟩
      obtain ⟨c23,hc23⟩:∃ c1,c1=c0 - ((ji10):Int).toNat:=⟨_,rfl⟩
      have hy23:y428.length=l0.length - ((ji10):Int).toNat:=(by rw [Ny428.out,List.length_drop]<;>omega)
      rw [show (l0).drop ((ji10):Int).toNat=y428 from Ny428.out.symm] at hr23;replace hr23:Kd.F (Kd.int .i64) _ _ A23 y428.length y428:=(by rw [hA23];exact hr23)
      rw [← hy23,← hA23,← hc23] at hcut23;have HO432:=As0.mk (show Kd.V (Kd.int .i64) 3 _ w.heap.size _ (.slice A23 y428.length c23) y428 from Kd.V_mk (by rw [hy23,hc23];exact Nat.sub_le_sub_right hroom23 _) hr23);have HC432:=As0.mk (show y428.length≤c23 from by rw [hy23,hc23];exact Nat.sub_le_sub_right hroom23 _);clear hr23 hC23 hroom23 hi023 hsz23 hc23;have KY23:=As0.mk hy23;have KA23:=As0.mk hA23;clear hy23 hA23;replace q23:=eq_true q23;have q24:((ji10):Int)≤((l0.length:Int):Int):=zDo (by with_reducible assumption);obtain ⟨i024,hi024,_,hsz24,_⟩:=info_parts info3;have hroom24:l0.length≤c0:=(Kd.V_reads' HO0.out).2.1;have hC24:Kd.F (Kd.int .i64) _ _ A0 l0.length l0:=(Kd.V_at (base:=w.heap.size) HO0.out).2.2;have hcut24:=cut_to (P:=Tra.prog) 29 3 .i64 Tra.underlying29 hi024 A0 l0.length c0 (ji10) (zDo (by with_reducible assumption)) q24 hroom24;have hr24:=Kd.F_take (m:=((ji10):Int).toNat) hC24 (by omega);have hy24:y436.length=((ji10):Int).toNat:=(by rw [Ny436.out,List.length_take];omega)
      rw [← Ny436.out] at hr24;rw [← hy24] at hcut24;have HO440:=As0.mk (show Kd.V (Kd.int .i64) 3 _ w.heap.size _ (.slice A0 y436.length c0) y436 from Kd.V_mk (by omega) hr24);have HC440:=As0.mk (show y436.length≤c0 from by omega);clear hr24 hC24 hroom24 hi024 hsz24;have KY24:=As0.mk hy24;clear hy24;replace q24:=eq_true q24;refine yas (n:=11) (S:=fun w'=>True) (ds:=[]) #[false,false,false,false,false,false,false,false,false,false,false] (by kernel_rfl) rfl rfl trivial (fun hHeld=>?_);refine y48 mobs_Around.tab7 mobs_Around.bits7 (fun HT_ HW_=>?_);generalize w21.drew=w22 at HO0 HO426 HB HO432 HO440 hHeld ⊢;refine y1b (i:=0) (N:=some 27) (v:=?_) (a':=?_) #[true,false,false,false,false,false,false,false,false,false,false] rfl rfl (y0v HT_.out (by kernel_rfl)) (fun _ _ _ h=>h) (Or.inl ⟨by rfl,?_⟩) ?_ ?_;rotate_left
      ·intro w'
       go_simp
       with_reducible rfl
      rotate_left
      ·simp only [Act.put,List.setIfInBounds_toArray,List.set_cons_zero,List.set_cons_succ,y0r,y0w]
       rfl
      refine y1b (i:=1) (N:=some 28) (v:=?_) (a':=?_) #[true,true,false,false,false,false,false,false,false,false,false] rfl rfl (y0v HT_.out (by kernel_rfl)) (fun _ _ _ h=>h) (Or.inl ⟨by rfl,?_⟩) ?_ ?_;rotate_left
      ·intro w'
       go_simp
       with_reducible rfl
      rotate_left
      ·simp only [Act.put,List.setIfInBounds_toArray,List.set_cons_zero,List.set_cons_succ,y0r,y0w]
       rfl
      refine y1b (i:=2) (N:=some 29) (v:=?_) (a':=?_) #[true,true,true,false,false,false,false,false,false,false,false] rfl rfl (y0v HT_.out (by kernel_rfl)) (fun _ _ _ h=>h) (Or.inl ⟨by rfl,?_⟩) ?_ ?_;rotate_left
      ·intro w'
       go_simp
       with_reducible rfl
      rotate_left
      ·simp only [Act.put,List.setIfInBounds_toArray,List.set_cons_zero,List.set_cons_succ,y0r,y0w]
       rfl
      refine y1b (i:=4) (N:=some 31) (v:=?_) (a':=?_) #[true,true,true,false,true,false,false,false,false,false,false] rfl rfl (y0v HT_.out (by kernel_rfl)) (fun _ _ _ h=>h) (Or.inl ⟨by rfl,?_⟩) ?_ ?_;rotate_left
      ·intro w'
       go_simp
       with_reducible rfl
      rotate_left
      ·simp only [Act.put,List.setIfInBounds_toArray,List.set_cons_zero,List.set_cons_succ,y0r,y0w]
       rfl
      refine y1b (i:=5) (N:=some 32) (v:=?_) (a':=?_) #[true,true,true,false,true,true,false,false,false,false,false] rfl rfl (y0v HT_.out (by kernel_rfl)) (fun _ _ _ h=>h) (Or.inl ⟨by rfl,?_⟩) ?_ ?_;rotate_left
      ·intro w'
       go_simp
       with_reducible rfl
      rotate_left
      ·simp only [Act.put,List.setIfInBounds_toArray,List.set_cons_zero,List.set_cons_succ,y0r,y0w]
       rfl
      refine y1b (i:=6) (N:=some 33) (v:=?_) (a':=?_) #[true,true,true,false,true,true,true,false,false,false,false] rfl rfl (y0v HT_.out (by kernel_rfl)) (fun _ _ _ h=>h) (Or.inl ⟨by rfl,?_⟩) ?_ ?_;rotate_left
      ·intro w'
       go_simp
       with_reducible rfl
      rotate_left
      ·simp only [Act.put,List.setIfInBounds_toArray,List.set_cons_zero,List.set_cons_succ,y0r,y0w]
       rfl
      refine one_ (i:=3) (N:=some 30) #[true,true,true,true,true,true,true,false,false,false,false] rfl rfl (y55 HT_.out (by kernel_rfl)) (by decide) (fun K hK=>?_);refine goes_ Tra.func56 (by kernel_rfl) rfl #[.slice A23 y428.length c23] (by rfl) rfl rfl (by (try simp only [List.map_toArray,List.map_cons,List.map_nil]);first|done|rfl|(simp only [List.length_drop,List.length_take];rfl)) ?_
      with_reducible refine (slices_Clone_int_int.calls _ _ y428 t433 _ ?side1 ?side2 A13.out).mono ?_
      (case side1=>repeat (first|exact (Kd.V_reads' HO432.out).2.2|(with_reducible refine Kd.C_alloc ?_ _)|(with_reducible refine Kd.C_drewN ?_ _)|(with_reducible refine Kd.C_drew ?_)))
      (case side2=>exact (Kd.V_reads' HO432.out).2.1)
      rintro e w25 ⟨v434,rfl,ho0,hb⟩
      refine ⟨_,rfl,?_⟩;have n0_:=As0.mk (Kd.V_elder' (by (with_reducible repeat (first|apply Kd.V_alloc|apply Kd.V_drewN|apply Kd.V_drew));exact HO0.out) (Kd.R_base ho0) hb);have n1_:=As0.mk (Kd.N_elder' (by (with_reducible repeat (first|apply Kd.N_alloc|apply Kd.N_drewN|apply Kd.N_drew));exact HO426.out) (Kd.R_base ho0) hb);have n2_:=As0.mk (Kd.V_elder' (by (with_reducible repeat (first|apply Kd.V_alloc|apply Kd.V_drewN|apply Kd.V_drew));exact HO432.out) (Kd.R_base ho0) hb);have n3_:=As0.mk (Kd.V_elder' (by (with_reducible repeat (first|apply Kd.V_alloc|apply Kd.V_drewN|apply Kd.V_drew));exact HO440.out) (Kd.R_base ho0) hb);have n4_:=As0.mk (Kd.R_lower (Kd.R_newM (M:=fun k_=>(w.heap.size≤k_)) ho0 (y05 (by repeat (with_reducible first|exact HB.out|apply y01|apply y00|apply y02))) (fun k_ h_=>h_)) (y05 (by repeat (with_reducible first|exact HB.out|apply y01|apply y00|apply y02))));have n5_:=As0.mk (y07 (by repeat (with_reducible first|exact HB.out|apply y01|apply y00|apply y02)) hb);clear HO0;clear HO426;clear HO432;clear HO440;clear HB;have HO0:=n0_;have HO426:=n1_;have HO432:=n2_;have HO440:=n3_;have HO435:=n4_;have HB:=n5_;clear n0_ n1_ n2_ n3_ n4_ n5_
      (try clear hb)
      (try clear hb2)
      (try clear hk)
      (try clear hi)
      (try clear ho0)
      refine hK.out _ _ trivial (fun hHeld=>?_);clear hK K;refine ya3 (a':=?_) ?_ ?_;rotate_left
      ·show Act.put _ (some 30) _=_
       simp only [Act.put,List.setIfInBounds_toArray,List.set_cons_zero,List.set_cons_succ,y0r,y0w];rfl
      refine one_ (i:=7) (N:=some 34) #[true,true,true,true,true,true,true,true,false,false,false] rfl rfl (y55 HT_.out (by kernel_rfl)) (by decide) (fun K hK=>?_);refine Kd.R_append_rows_step (Kd.int .i64) (w0:=w) w.heap.size (by rfl) (.tmp 30) (.tmp 33) 29 3 (.int .i64 0) 8 rfl Tra.underlying29 info3 rfl (by decide) (by omega) v434 t433 y436 _ _ _ (fun k_=>(w.heap.size≤k_)) (fun _=>False) rfl rfl ?aO ?aR (fun _ _ h=>h) (fun _ h=>h.elim) ?aF ?aB ?aS ?aL ?_
      (case aR=>repeat (first|exact (Kd.V_reads' HO440.out).2.2|(with_reducible refine Kd.C_alloc ?_ _)|(with_reducible refine Kd.C_drewN ?_ _)|(with_reducible refine Kd.C_drew ?_)))
      (case aB=>exact (by repeat (with_reducible first|exact HB.out|apply y01|apply y00|apply y02)))
      (case aF=>exact (fun k_ hk=>(Nat.le_trans (y05 (by repeat (with_reducible first|exact HB.out|apply y01|apply y00|apply y02))) hk)))
      (case aO=>exact (by (with_reducible repeat (first|apply Kd.R_alloc|apply Kd.R_drewN|apply Kd.R_drew));exact Kd.R_mono HO435.out (fun _ hk=>hk.1)))
      (case aS=>exact (y05 (by repeat (with_reducible first|exact HB.out|apply y01|apply y00|apply y02))))
      (case aL=>have:=LMc16.out;omega)
      intro v442 w26 ho hb hg hat;rw [← Ny441.out] at ho;have n0_:=As0.mk (Kd.V_afterv (ok:=(fun k_=>(P0_ k_∨w.heap.size≤k_)∧some k_≠(.slice Ao20 y424.length co20:Value).ownBlock)) (by (with_reducible repeat (first|apply Kd.V_alloc|apply Kd.V_drewN|apply Kd.V_drew));exact HO0.out) hg hat);have n1_:=As0.mk (Kd.N_afterv (ok:=(fun k_=>(P0_ k_∨w.heap.size≤k_))) (by (with_reducible repeat (first|apply Kd.N_alloc|apply Kd.N_drewN|apply Kd.N_drew));exact HO426.out) hg hat);have n2_:=As0.mk (Kd.V_afterv (ok:=(fun k_=>(P0_ k_∨w.heap.size≤k_)∧some k_≠(.slice Ao20 y424.length co20:Value).ownBlock)) (by (with_reducible repeat (first|apply Kd.V_alloc|apply Kd.V_drewN|apply Kd.V_drew));exact HO432.out) hg hat);have n3_:=As0.mk (Kd.V_afterv (ok:=(fun k_=>(P0_ k_∨w.heap.size≤k_)∧some k_≠(.slice Ao20 y424.length co20:Value).ownBlock)) (by (with_reducible repeat (first|apply Kd.V_alloc|apply Kd.V_drewN|apply Kd.V_drew));exact HO440.out) hg hat);have n4_:=As0.mk (hb);have n5_:=As0.mk (ho);clear HO0;clear HO426;clear HO432;clear HO440;clear HB;clear HO435;have HO0:=n0_;have HO426:=n1_;have HO432:=n2_;have HO440:=n3_;have HB:=n4_;have HO443:=n5_;clear n0_ n1_ n2_ n3_ n4_ n5_;clear ho hb hg hat;obtain ⟨Ao27,co27,eo27⟩:=Kd.R_slice HO443.out
      (first|subst eo27|(injection eo27 with f1_ f2_ f3_;have f4_:=f1_.symm;have f5_:=f3_.symm;clear f1_ f2_ f3_;subst f4_;subst f5_))
      refine hK.out _ _ trivial (fun hHeld=>?_);clear hK K;refine ya3 (a':=?_) ?_ ?_;rotate_left
      ·show Act.put _ (some 34) _=_
       simp only [Act.put,List.setIfInBounds_toArray,List.set_cons_zero,List.set_cons_succ,y0r,y0w];rfl
      refine one_ (i:=8) (N:=some 35) #[true,true,true,true,true,true,true,true,true,false,false] rfl rfl (y55 HT_.out (by kernel_rfl)) (by decide) (fun K hK=>?_);refine goes_ Tra.func54 (by kernel_rfl) rfl #[.slice Ao27 y441.length co27] (by rfl) rfl rfl (by (try simp only [List.map_toArray,List.map_cons,List.map_nil]);first|done|rfl|(simp only [List.length_drop,List.length_take];rfl)) ?_
      with_reducible refine (mobs_number_int.calls _ _ y441 t444 _ ?side1 ?side2 A17.out).mono ?_
      (case side1=>repeat (first|exact (Kd.R_reads' HO443.out).2.2|(with_reducible refine Kd.C_alloc ?_ _)|(with_reducible refine Kd.C_drewN ?_ _)|(with_reducible refine Kd.C_drew ?_)))
      (case side2=>exact (Kd.R_reads' HO443.out).2.1)
      rintro e w28 ⟨v445,rfl,ho0,hb⟩
      refine ⟨_,rfl,?_⟩;have n0_:=As0.mk (Kd.V_elder' (by (with_reducible repeat (first|apply Kd.V_alloc|apply Kd.V_drewN|apply Kd.V_drew));exact HO0.out) (Kd.R_base ho0) hb);have n1_:=As0.mk (Kd.N_elder' (by (with_reducible repeat (first|apply Kd.N_alloc|apply Kd.N_drewN|apply Kd.N_drew));exact HO426.out) (Kd.R_base ho0) hb);have n2_:=As0.mk (Kd.V_elder' (by (with_reducible repeat (first|apply Kd.V_alloc|apply Kd.V_drewN|apply Kd.V_drew));exact HO432.out) (Kd.R_base ho0) hb);have n3_:=As0.mk (Kd.V_elder' (by (with_reducible repeat (first|apply Kd.V_alloc|apply Kd.V_drewN|apply Kd.V_drew));exact HO440.out) (Kd.R_base ho0) hb);have n4_:=As0.mk (Kd.R_elder' (by (with_reducible repeat (first|apply Kd.R_alloc|apply Kd.R_drewN|apply Kd.R_drew));exact HO443.out) (Kd.R_base ho0) hb);have n5_:=As0.mk (Kd.R_lower (Kd.R_new' (Kd.R_newM (M:=fun k_=>(w.heap.size≤k_)) ho0 (y05 (by repeat (with_reducible first|exact HB.out|apply y01|apply y00|apply y02))) (fun k_ h_=>h_)) (Kd.R_lt (by (with_reducible repeat (first|apply Kd.R_alloc|apply Kd.R_drewN|apply Kd.R_drew));exact HO443.out))) (y05 (by repeat (with_reducible first|exact HB.out|apply y01|apply y00|apply y02))));have n6_:=As0.mk (y07 (by repeat (with_reducible first|exact HB.out|apply y01|apply y00|apply y02)) hb);clear HO0;clear HO426;clear HO432;clear HO440;clear HO443;clear HB;have HO0:=n0_;have HO426:=n1_;have HO432:=n2_;have HO440:=n3_;have HO443:=n4_;have HO446:=n5_;have HB:=n6_;clear n0_ n1_ n2_ n3_ n4_ n5_ n6_
      (try clear hb)
      (try clear hb2)
      (try clear hk)
      (try clear hi)
      (try clear ho0)
      refine hK.out _ _ trivial (fun hHeld=>?_);clear hK K;refine ya3 (a':=?_) ?_ ?_;rotate_left
      ·show Act.put _ (some 35) _=_
       simp only [Act.put,List.setIfInBounds_toArray,List.set_cons_zero,List.set_cons_succ,y0r,y0w];rfl
      refine y1b (i:=9) (N:=some 4) (v:=?_) (a':=?_) #[true,true,true,true,true,true,true,true,true,true,false] rfl rfl (y0v HT_.out (by kernel_rfl)) (fun _ _ _ h=>h) (Or.inl ⟨by rfl,?_⟩) ?_ ?_;rotate_left
      ·intro w'
       go_simp
       with_reducible rfl
      rotate_left
      ·simp only [Act.put,List.setIfInBounds_toArray,List.set_cons_zero,List.set_cons_succ,y0r,y0w]
       rfl
      refine y1b (i:=10) (N:=some 5) (v:=?_) (a':=?_) #[true,true,true,true,true,true,true,true,true,true,true] rfl rfl (y0v HT_.out (by kernel_rfl)) (fun _ _ _ h=>h) (Or.inl ⟨by rfl,?_⟩) ?_ ?_;rotate_left
      ·intro w'
       go_simp
       with_reducible rfl
      rotate_left
      ·simp only [Act.put,List.setIfInBounds_toArray,List.set_cons_zero,List.set_cons_succ,y0r,y0w]
       rfl
      refine yj9 (y82 HT_.out (by kernel_rfl)) ?_
      try go_wp2
      go_ret2
      exact ⟨_,by first|rfl|(simp [y0a,y09]<;>rfl)|(simp only [← hji10];first|rfl|(simp [y0a,y09]<;>rfl))|(simp [*,y0a,y09]<;>rfl),by (with_reducible repeat (first|apply Kd.R_alloc|apply Kd.R_drewN|apply Kd.R_drew));exact Kd.R_mono HO446.out (fun _ hk=>hk.1.1),by repeat (with_reducible first|exact HB.out|apply y01|apply y00|apply y02)⟩
     ·rw [if_neg c16] at H
      exact absurd H (by simp)
    ·rw [if_neg c12] at H
     exact absurd H (by simp)
   ·rw [if_neg c11] at H
    exact absurd H (by simp)
 ·rw [if_neg c4] at H
  have c4b0:(t427 == 0)=false:=beq_eq_false_iff_ne.mpr c4;have c4b1:(t427 != 0)=true:=bne_iff_ne.mpr c4;simp only [Option.some.injEq,Prod.mk.injEq] at H;obtain ⟨rfl,rfl⟩:=H;go_enter Tra.func28,Tra.ntmps28
  go_wp2_with (first|((with_reducible refine y0i (N:=9) rfl ?_);refine Kd.N_lit (Kd.slice 3 (Kd.int .i64)) _ 29 ?hg (N':=9) ?hd (xs:=([l0]:List (List Int))) (inner:=[.slice A0 l0.length c0]) (ok:=(fun k_=>(P0_ k_∨w.heap.size≤k_))) (okp:=(fun k_=>(P0_ k_∨w.heap.size≤k_))) ?hr ?hp (fun _ hk=>hk) ((show ∀ k_,w.heap.size≤k_->(fun k_=>(P0_ k_∨w.heap.size≤k_)) k_ from fun k_ hk=>(.inr (Nat.le_trans (y05 (by repeat (with_reducible first|exact HB.out|apply y01|apply y00|apply y02))) hk))) _ (zLe _)) (Below.refl _ _) (zLe _) (by simp) ?_;(case hd=>rfl);(case hg=>rfl);(case hr=>first|(go_simp;done)|(go_simp;rfl));(case hp=>exact (Reps.one (show Kd.FK (Kd.slice 3 (Kd.int .i64)) _ _ l0 [.slice A0 l0.length c0] from (Kd.FK_slice_mk (Kd.V_reads' (Kd.V_mono (ok':=(fun k_=>(P0_ k_∨w.heap.size≤k_))) (HO0.out) (fun k_ hk=>hk))).2.1 (Kd.V_F (Kd.V_mono (ok':=(fun k_=>(P0_ k_∨w.heap.size≤k_))) (HO0.out) (fun k_ hk=>hk))))) (Reps.none _ _)));intro v425 w29 ho30 hb hg_ hnew_;clear hg_ hnew_;(first|rw [← Ny424.out] at ho30|(simp only [Int.reduceToNat] at ho30;rw [← Ny424.out] at ho30));have n0_:=As0.mk (Kd.V_elder' (by (with_reducible repeat (first|apply Kd.V_alloc|apply Kd.V_drewN|apply Kd.V_drew));exact HO0.out) (Kd.N_base ho30) hb);have n1_:=As0.mk (Kd.N_lower ho30 (y05 (by repeat (with_reducible first|exact HB.out|apply y01|apply y00|apply y02))));have n2_:=As0.mk (y07 (by repeat (with_reducible first|exact HB.out|apply y01|apply y00|apply y02)) hb);clear HO0;clear HB;have HO0:=n0_;have HO426:=n1_;have HB:=n2_;clear n0_ n1_ n2_;clear hb ho30;obtain ⟨Ao31,co31,eo31⟩:=Kd.N_slice HO426.out;subst eo31)|((with_reducible refine y0d (f:=49) rfl ?_);refine y0m (some 10) rfl rfl Tra.func49 (by kernel_rfl) rfl #[.slice Ao31 y424.length co31] rfl (by (try simp only [List.map_toArray,List.map_cons,List.map_nil]);first|done|rfl|(simp only [List.length_drop,List.length_take];rfl)) ?_;(with_reducible refine (mobs_read.calls k _ _ y424 t427 _ ?side1 ?side2 A3.out).mono ?_);(case side1=>repeat (first|exact (Kd.N_reads' HO426.out).2.2|(with_reducible refine Kd.C_alloc ?_ _)|(with_reducible refine Kd.C_drewN ?_ _)|(with_reducible refine Kd.C_drew ?_)));(case side2=>exact (Kd.N_reads' HO426.out).2.1);rintro e w32 ⟨rfl,hb⟩;refine ⟨_,rfl,?_⟩;have n0_:=As0.mk (Kd.V_below (by (with_reducible repeat (first|apply Kd.V_alloc|apply Kd.V_drewN|apply Kd.V_drew));exact HO0.out) hb);have n1_:=As0.mk (Kd.N_below (by (with_reducible repeat (first|apply Kd.N_alloc|apply Kd.N_drewN|apply Kd.N_drew));exact HO426.out) hb);have n2_:=As0.mk (y07 (by repeat (with_reducible first|exact HB.out|apply y01|apply y00|apply y02)) hb);clear HO0;clear HO426;clear HB;have HO0:=n0_;have HO426:=n1_;have HB:=n2_;clear n0_ n1_ n2_;(try clear hb);(try clear hb2);(try clear hk);(try clear hi)))
  go_ret2
  exact ⟨_,by first|rfl|(simp [y0a,y09]<;>rfl)|(simp [*,y0a,y09]<;>rfl),by first|exact Kd.R_nil _ _ _ _ _|exact Kd.N_nil _ _ _ _ _|exact Kd.V_nil _ _ _ _ _|exact Kd.Q_nil _ _ _ _ _|exact Kd.S_nil _ _ _ _ _,by repeat (with_reducible first|exact HB.out|apply y01|apply y00|apply y02)⟩
def r6_Around.j0:Nat->List Int->Int->Int->Bool->Option (List Int × Int)
 |0,_,_,_,_=>none
 |k+1,x0,x1,x6,x17=>if x17=true then (some (([]:List Int),x6)) else (if (x0.length:Int)=0 then (none) else (if (Int.tmod x1 (x0.length:Int))<0 then (if 0≤(wrap64 ((Int.tmod x1 (x0.length:Int))+(x0.length:Int))) then (if (wrap64 ((Int.tmod x1 (x0.length:Int))+(x0.length:Int)))≤(x0.length:Int) then (if ([]:List Int).length+(x0.drop ((wrap64 ((Int.tmod x1 (x0.length:Int))+(x0.length:Int))):Int).toNat).length<17592186044416 then ((some (([]:List Int) ++ (x0.drop ((wrap64 ((Int.tmod x1 (x0.length:Int))+(x0.length:Int))):Int).toNat):List Int)).bind fun y449=>(if y449.length+(x0.take ((wrap64 ((Int.tmod x1 (x0.length:Int))+(x0.length:Int))):Int).toNat).length<17592186044416 then ((r6_numbered.f k (y449 ++ (x0.take ((wrap64 ((Int.tmod x1 (x0.length:Int))+(x0.length:Int))):Int).toNat))).bind fun t456=>(some (t456,0))) else (none))) else (none)) else (none)) else (none)) else (if 0≤(Int.tmod x1 (x0.length:Int)) then (if (Int.tmod x1 (x0.length:Int))≤(x0.length:Int) then (if ([]:List Int).length+(x0.drop ((Int.tmod x1 (x0.length:Int)):Int).toNat).length<17592186044416 then ((some (([]:List Int) ++ (x0.drop ((Int.tmod x1 (x0.length:Int)):Int).toNat):List Int)).bind fun y460=>(if y460.length+(x0.take ((Int.tmod x1 (x0.length:Int)):Int).toNat).length<17592186044416 then ((r6_numbered.f k (y460 ++ (x0.take ((Int.tmod x1 (x0.length:Int)):Int).toNat))).bind fun t467=>(some (t467,0))) else (none))) else (none)) else (none)) else (none))))
def r6_Around.f (k:Nat) (l0:List Int) (a1:Int):Option (List Int × Int):=(r6_Parting.f k l0).bind fun t447=>(if t447=0 then (r6_Around.j0 k l0 a1 t447 ((l0.length:Int) == 0)) else (r6_Around.j0 k l0 a1 t447 true))
theorem r6_Around.calls (k:Nat) (A0:Option Addr) (c0:Nat) (l0:List Int) (a1:Int) (r1:List Int) (r2:Int) (w:World) (hr0:Kd.C (Kd.int .i64) w A0 l0.length l0) (hc0:l0.length≤c0) (h:r6_Around.f k l0 a1=some (r1,r2)) :
  Calls Tra.prog 29 #[.slice A0 l0.length c0,.int .i64 a1] w fun e w'=>∃ v0_:Value,e=.returned (.tuple #[v0_,.int .i64 r2])∧Kd.R (Kd.int .i64) 3 w' w.heap.size (fun _=>True) v0_ r1∧Below w.heap.size w w':=by
 have HR0:=As0.mk hr0;have HC0:=As0.mk hc0;clear hr0 hc0;have HB:=As0.mk (Below.refl w.heap.size w);have H:((r6_Parting.f k l0).bind fun t447=>(if t447=0 then (r6_Around.j0 k l0 a1 t447 ((l0.length:Int) == 0)) else (r6_Around.j0 k l0 a1 t447 true)))=some (r1,r2):=h;clear h;replace H:=Option.bind_eq_some_iff.mp H;obtain ⟨t447,A30,H⟩:=H;replace H:(if t447=0 then (r6_Around.j0 k l0 a1 t447 ((l0.length:Int) == 0)) else (r6_Around.j0 k l0 a1 t447 true))=some (r1,r2):=H;have A3:=As0.mk A30;clear A30;have HC4:=As0.mk H;clear H;go_enter Tra.func29,Tra.ntmps29
 go_upto_region 2 with (first|((with_reducible refine y0d (f:=51) rfl ?_);refine y0m (some 10) rfl rfl Tra.func51 (by kernel_rfl) rfl #[.slice A0 l0.length c0] rfl (by (try simp only [List.map_toArray,List.map_cons,List.map_nil]);first|done|rfl|(simp only [List.length_drop,List.length_take];rfl)) ?_;(with_reducible refine (r6_Parting.calls k _ _ l0 t447 _ ?side1 ?side2 A3.out).mono ?_);(case side1=>repeat (first|exact HR0.out|(with_reducible refine Kd.C_alloc ?_ _)|(with_reducible refine Kd.C_drewN ?_ _)|(with_reducible refine Kd.C_drew ?_)));(case side2=>exact HC0.out);rintro e w' ⟨rfl,⟨nd,rfl⟩⟩;refine ⟨_,rfl,?_⟩))
 (try simp only [Act.put,List.setIfInBounds_toArray,List.set_cons_zero,List.set_cons_succ])
 go_cut [17] (fun v17 wc=>∃ (kq:Nat) (x17_3:Bool),v17=.bool x17_3∧As0 (r6_Around.j0 kq l0 a1 t447 x17_3=some (r1,r2))∧As0 (kq≤k)∧As0 (Below w.heap.size w wc))
 case first =>
  have H:=HC4.out;clear HC4
  by_cases c5:t447=0
  ·rw [if_pos c5] at H
   have c5b0:(t447 == 0)=true:=beq_iff_eq.mpr c5;have c5b1:(t447 != 0)=false:=bne_eq_false_iff_eq.mpr c5;clear c5
   (first|rw [c5b0]|(simp only [y0r,y0w];rw [c5b0])|skip)
   have H':=As0.mk H;clear H;go_wp2
   go_meet
   case rel=>exact ⟨_,(((l0.length:Int) == 0)),(by first|rfl|(simp;done)|(simp [*];done)),H',⟨by first|omega|exact zLe _⟩,⟨by repeat (with_reducible first|exact HB.out|apply y01|apply y00|apply y02)⟩⟩
  ·rw [if_neg c5] at H
   have c5b0:(t447 == 0)=false:=beq_eq_false_iff_ne.mpr c5;have c5b1:(t447 != 0)=true:=bne_iff_ne.mpr c5
   (first|rw [c5b0]|(simp only [y0r,y0w];rw [c5b0])|skip)
   have H':=As0.mk H;clear H;go_wp2
   go_meet
   case rel=>exact ⟨_,(true),(by first|rfl|(simp;done)|(simp [*];done)),H',⟨by first|omega|exact zLe _⟩,⟨by repeat (with_reducible first|exact HB.out|apply y01|apply y00|apply y02)⟩⟩
 case rest =>
  clear HC4
  try clear c2
  try clear p2
  try clear c5
  try clear c5b0
  try clear c5b1
  obtain ⟨kq,x17_3,rfl,HA,HJ3,HB⟩:=hcut;cases kq with
  |zero=>exact absurd HA.out (by simp [r6_Around.j0])
  |succ kj3 =>
   have H:=HA.out;clear HA;simp only [r6_Around.j0] at H
   by_cases c6:x17_3=true
   ·subst c6
    have H1:(some (([]:List Int),t447))=some (r1,r2):=by rw [if_pos rfl] at H;exact H
    clear H;have H:=H1;clear H1;simp only [Option.some.injEq,Prod.mk.injEq] at H;obtain ⟨rfl,rfl⟩:=H;go_wp2
    go_ret2
    exact ⟨_,by first|rfl|(simp [y0a,y09]<;>rfl)|(simp [*,y0a,y09]<;>rfl),by first|exact Kd.R_nil _ _ _ _ _|exact Kd.N_nil _ _ _ _ _|exact Kd.V_nil _ _ _ _ _|exact Kd.Q_nil _ _ _ _ _|exact Kd.S_nil _ _ _ _ _,by repeat (with_reducible first|exact HB.out|apply y01|apply y00|apply y02)⟩
   ·replace c6:=Bool.eq_false_iff.mpr c6
    subst c6;have H1:(if (l0.length:Int)=0 then (none) else (if (Int.tmod a1 (l0.length:Int))<0 then (if 0≤(wrap64 ((Int.tmod a1 (l0.length:Int))+(l0.length:Int))) then (if (wrap64 ((Int.tmod a1 (l0.length:Int))+(l0.length:Int)))≤(l0.length:Int) then (if ([]:List Int).length+(l0.drop ((wrap64 ((Int.tmod a1 (l0.length:Int))+(l0.length:Int))):Int).toNat).length<17592186044416 then ((some (([]:List Int) ++ (l0.drop ((wrap64 ((Int.tmod a1 (l0.length:Int))+(l0.length:Int))):Int).toNat):List Int)).bind fun y449=>(if y449.length+(l0.take ((wrap64 ((Int.tmod a1 (l0.length:Int))+(l0.length:Int))):Int).toNat).length<17592186044416 then ((r6_numbered.f kj3 (y449 ++ (l0.take ((wrap64 ((Int.tmod a1 (l0.length:Int))+(l0.length:Int))):Int).toNat))).bind fun t456=>(some (t456,0))) else (none))) else (none)) else (none)) else (none)) else (if 0≤(Int.tmod a1 (l0.length:Int)) then (if (Int.tmod a1 (l0.length:Int))≤(l0.length:Int) then (if ([]:List Int).length+(l0.drop ((Int.tmod a1 (l0.length:Int)):Int).toNat).length<17592186044416 then ((some (([]:List Int) ++ (l0.drop ((Int.tmod a1 (l0.length:Int)):Int).toNat):List Int)).bind fun y460=>(if y460.length+(l0.take ((Int.tmod a1 (l0.length:Int)):Int).toNat).length<17592186044416 then ((r6_numbered.f kj3 (y460 ++ (l0.take ((Int.tmod a1 (l0.length:Int)):Int).toNat))).bind fun t467=>(some (t467,0))) else (none))) else (none)) else (none)) else (none))))=some (r1,r2):=by rw [if_neg (show ¬ (false=true) by decide)] at H;exact H
    clear H;have H:=H1;clear H1
    by_cases c7:(l0.length:Int)=0
    ·rw [if_pos c7] at H
     exact absurd H (by simp)
    ·rw [if_neg c7] at H
     have c7b0:((l0.length:Int) == 0)=false:=beq_eq_false_iff_ne.mpr c7;have c7b1:((l0.length:Int) != 0)=true:=bne_iff_ne.mpr c7;have c7b2:¬ (l0=[]):=fun h_=>c7 (by rw [h_];rfl)
     by_cases c8:(Int.tmod a1 (l0.length:Int))<0
     ·rw [if_pos c8] at H
      have c8b0:decide ((Int.tmod a1 (l0.length:Int))<0)=true:=zDt c8;clear c8;obtain ⟨ji9,hji9⟩:∃ j_:Int,(wrap64 ((Int.tmod a1 (l0.length:Int))+(l0.length:Int)))=j_:=⟨_,rfl⟩
      replace H:(if 0≤(ji9) then (if (ji9)≤(l0.length:Int) then (if ([]:List Int).length+(l0.drop ((ji9):Int).toNat).length<17592186044416 then ((some (([]:List Int) ++ (l0.drop ((ji9):Int).toNat):List Int)).bind fun y449=>(if y449.length+(l0.take ((ji9):Int).toNat).length<17592186044416 then ((r6_numbered.f kj3 (y449 ++ (l0.take ((ji9):Int).toNat))).bind fun t456=>(some (t456,0))) else (none))) else (none)) else (none)) else (none))=some (r1,r2):=by first|(rw [hji9] at H;exact H)|(simp only [hji9] at H ⊢;exact H)
      have hji9w:(IntKind.i64.wrap ((Int.tmod a1 (l0.length:Int))+(l0.length:Int)))=ji9:=(y0r _).trans hji9
      by_cases c10:0≤(ji9)
      ·rw [if_pos c10] at H
       have c10b0:=eq_true c10;have c10b1:decide (0≤(ji9))=true:=zDt c10;clear c10
       by_cases c11:(ji9)≤(l0.length:Int)
       ·rw [if_pos c11] at H
        have c11b0:=eq_true c11;have c11b1:decide ((ji9)≤(l0.length:Int))=true:=zDt c11;clear c11
        by_cases c12:([]:List Int).length+(l0.drop ((ji9):Int).toNat).length<17592186044416
        ·rw [if_pos c12] at H
         have LMc12:=As0.mk c12;clear c12;obtain ⟨y449,hy449⟩:∃ y_:List Int,y_=(([]:List Int) ++ (l0.drop ((ji9):Int).toNat)):=⟨_,rfl⟩
         replace H:(if y449.length+(l0.take ((ji9):Int).toNat).length<17592186044416 then ((r6_numbered.f kj3 (y449 ++ (l0.take ((ji9):Int).toNat))).bind fun t456=>(some (t456,0))) else (none))=some (r1,r2):=by first|(rw [hy449];with_reducible exact H)|(have H2_:=(Option.bind_some _ _).symm.trans H;rw [hy449];with_reducible exact H2_)|(have H2_:=(Option.bind_some _ _).symm.trans H;with_reducible exact H2_)|with_reducible exact H|(rw [hy449];exact H)|exact H
         have Ny449:=As0.mk hy449;clear hy449;have c13b0:=eq_true (zDo (by with_reducible assumption):0≤(ji9));have c14b0:=eq_true (zDo (by with_reducible assumption):(ji9)≤(l0.length:Int))
         by_cases c15:y449.length+(l0.take ((ji9):Int).toNat).length<17592186044416
         ·rw [if_pos c15] at H
          have LMc15:=As0.mk c15;clear c15;obtain ⟨y453,hy453⟩:∃ y_:List Int,y_=(y449 ++ (l0.take ((ji9):Int).toNat)):=⟨_,rfl⟩
          replace H:((r6_numbered.f kj3 y453).bind fun t456=>(some (t456,0)))=some (r1,r2):=by first|(rw [hy453];with_reducible exact H)|(have H2_:=(Option.bind_some _ _).symm.trans H;rw [hy453];with_reducible exact H2_)|(have H2_:=(Option.bind_some _ _).symm.trans H;with_reducible exact H2_)|with_reducible exact H|(rw [hy453];exact H)|exact H
          have Ny453:=As0.mk hy453;clear hy453;replace H:=Option.bind_eq_some_iff.mp H;obtain ⟨t456,A160,H⟩:=H;replace H:(some (t456,0))=some (r1,r2):=H;have A16:=As0.mk A160;clear A160;simp only [Option.some.injEq,Prod.mk.injEq] at H;obtain ⟨rfl,rfl⟩:=H;obtain ⟨i017,hi017,_,hsz17,_⟩:=info_parts info3;obtain ⟨A17,hcut17,hA17,hC17⟩:=y3b (P:=Tra.prog) (Value.int .i64) 0 29 3 .i64 Tra.underlying29 hi017 hsz17 A0 c0 l0 (ji9) (zDo (by with_reducible assumption)) (zDo (by with_reducible assumption)) HC0.out;have HR448:=As0.mk (Kd.C_of_reads (h1:=fun _=>rfl) (hA17 _ (Kd.reads_of_C HR0.out)));have HC448:=As0.mk hC17;clear hA17 hC17 hi017 hsz17;go_wp2_with (first|((with_reducible refine y0p (b:=.append) (xs:=#[.tmp 29,.tmp 32]) rfl ?_);(try (refine y3s (by rfl) ?_;dsimp only));at_builtin;refine Kd.R_append_rows (Kd.int .i64) (w0:=w) w.heap.size rfl (.tmp 29) (.tmp 32) 29 3 (.int .i64 0) 8 rfl Tra.underlying29 info3 rfl (by decide) (by omega) (.slice none 0 0) ([]:List Int) (l0.drop ((ji9):Int).toNat) _ _ _ (fun _=>True) (fun _=>False) rfl rfl ?aO ?aR (fun _ _ h=>h) (fun _ h=>h.elim) ?aF ?aB ?aS ?aL ?_;(case aR=>first|(rw [← show (l0.drop ((ji9):Int).toNat).length=(l0.length - (ji9).toNat) from List.length_drop];repeat (first|exact (Kd.C_below HR448.out HB.out)|(with_reducible refine Kd.C_alloc ?_ _)|(with_reducible refine Kd.C_drewN ?_ _)|(with_reducible refine Kd.C_drew ?_)))|(repeat (first|exact (Kd.C_below HR448.out HB.out)|(with_reducible refine Kd.C_alloc ?_ _)|(with_reducible refine Kd.C_drewN ?_ _)|(with_reducible refine Kd.C_drew ?_))));(case aB=>exact (by repeat (with_reducible first|exact HB.out|apply y01|apply y00|apply y02)));(case aF=>exact (fun _ _=>trivial));(case aO=>exact ((Kd.R_nil _ _ _ _ (fun _=>True))));(case aS=>exact (y05 (by repeat (with_reducible first|exact HB.out|apply y01|apply y00|apply y02))));(case aL=>have:=LMc12.out;have hlx_:=(show (l0.drop ((ji9):Int).toNat).length=(l0.length - (ji9).toNat) from List.length_drop);omega);intro v450 w18 ho hb hg hat;rw [← Ny449.out] at ho;have n0_:=As0.mk (hb);have n1_:=As0.mk (ho);clear HB;have HB:=n0_;have HO451:=n1_;clear n0_ n1_;clear ho hb hg hat;obtain ⟨i019,hi019,_,hsz19,_⟩:=info_parts info3;obtain ⟨hcut19,hA19,hC19⟩:=y3a (P:=Tra.prog) (Value.int .i64) 0 29 3 .i64 Tra.underlying29 hi019 hsz19 A0 c0 l0 (ji9) (zDo (by with_reducible assumption)) (zDo (by with_reducible assumption)) HC0.out;have HR452:=As0.mk (Kd.C_of_reads (h1:=fun _=>rfl) (hA19 _ (Kd.reads_of_C HR0.out)));have HC452:=As0.mk hC19;clear hA19 hC19 hi019 hsz19)|((with_reducible refine y0p (b:=.append) (xs:=#[.tmp 34,.tmp 37]) rfl ?_);(try (refine y3s (by rfl) ?_;dsimp only));at_builtin;refine Kd.R_append_rows (Kd.int .i64) (w0:=w) w.heap.size rfl (.tmp 34) (.tmp 37) 29 3 (.int .i64 0) 8 rfl Tra.underlying29 info3 rfl (by decide) (by omega) v450 y449 (l0.take ((ji9):Int).toNat) _ _ _ (fun _=>True) (fun _=>False) rfl rfl ?aO ?aR (fun _ _ h=>h) (fun _ h=>h.elim) ?aF ?aB ?aS ?aL ?_;(case aR=>first|(have hx_:=Kd.C_below HR452.out HB.out;rw [show (l0.take ((ji9):Int).toNat).length=(ji9).toNat from (by rw [List.length_take];have h_:((ji9):Int)≤(l0.length:Int):=zDo (by with_reducible assumption);omega)] at hx_;repeat (first|exact hx_|(with_reducible refine Kd.C_alloc ?_ _)|(with_reducible refine Kd.C_drewN ?_ _)|(with_reducible refine Kd.C_drew ?_)))|(repeat (first|exact (Kd.C_below HR452.out HB.out)|(with_reducible refine Kd.C_alloc ?_ _)|(with_reducible refine Kd.C_drewN ?_ _)|(with_reducible refine Kd.C_drew ?_))));(case aB=>exact (by repeat (with_reducible first|exact HB.out|apply y01|apply y00|apply y02)));(case aF=>exact (fun _ _=>trivial));(case aO=>exact (by (with_reducible repeat (first|apply Kd.R_alloc|apply Kd.R_drewN|apply Kd.R_drew));exact HO451.out));(case aS=>exact (y05 (by repeat (with_reducible first|exact HB.out|apply y01|apply y00|apply y02))));(case aL=>have:=LMc15.out;have hlx_:=(show (l0.take ((ji9):Int).toNat).length=(ji9).toNat from (by rw [List.length_take];have h_:((ji9):Int)≤(l0.length:Int):=zDo (by with_reducible assumption);omega));omega);intro v454 w20 ho hb hg hat;rw [← Ny453.out] at ho;have n0_:=As0.mk (hb);have n1_:=As0.mk (ho);clear HB;clear HO451;have HB:=n0_;have HO455:=n1_;clear n0_ n1_;clear ho hb hg hat;obtain ⟨Ao21,co21,eo21⟩:=Kd.R_slice HO455.out;subst eo21)|((with_reducible refine y0d (f:=55) rfl ?_);refine y0m (some 39) rfl rfl Tra.func55 (by kernel_rfl) rfl #[.slice Ao21 y453.length co21] rfl (by (try simp only [List.map_toArray,List.map_cons,List.map_nil]);first|done|rfl|(simp only [List.length_drop,List.length_take];rfl)) ?_;(with_reducible refine (r6_numbered.calls kj3 _ _ y453 t456 _ ?side1 ?side2 A16.out).mono ?_);(case side1=>repeat (first|exact (Kd.R_reads' HO455.out).2.2|(with_reducible refine Kd.C_alloc ?_ _)|(with_reducible refine Kd.C_drewN ?_ _)|(with_reducible refine Kd.C_drew ?_)));(case side2=>exact (Kd.R_reads' HO455.out).2.1);rintro e w22 ⟨v457,rfl,ho0,hb⟩;refine ⟨_,rfl,?_⟩;have n0_:=As0.mk (Kd.R_elder' (by (with_reducible repeat (first|apply Kd.R_alloc|apply Kd.R_drewN|apply Kd.R_drew));exact HO455.out) (Kd.R_base ho0) hb);have n1_:=As0.mk (Kd.R_lower (Kd.R_new' ho0 (Kd.R_lt (by (with_reducible repeat (first|apply Kd.R_alloc|apply Kd.R_drewN|apply Kd.R_drew));exact HO455.out))) (y05 (by repeat (with_reducible first|exact HB.out|apply y01|apply y00|apply y02))));have n2_:=As0.mk (y07 (by repeat (with_reducible first|exact HB.out|apply y01|apply y00|apply y02)) hb);clear HO455;clear HB;have HO455:=n0_;have HO458:=n1_;have HB:=n2_;clear n0_ n1_ n2_;(try clear hb);(try clear hb2);(try clear hk);(try clear hi);(try clear ho0)))
          go_ret2
          exact ⟨_,by first|rfl|(simp [y0a,y09]<;>rfl)|(simp only [← hji9];first|rfl|(simp [y0a,y09]<;>rfl))|(simp [*,y0a,y09]<;>rfl),by (with_reducible repeat (first|apply Kd.R_alloc|apply Kd.R_drewN|apply Kd.R_drew));exact Kd.R_mono HO458.out (fun _ hk=>trivial),by repeat (with_reducible first|exact HB.out|apply y01|apply y00|apply y02)⟩
         ·rw [if_neg c15] at H
          exact absurd H (by simp)
        ·rw [if_neg c12] at H
         exact absurd H (by simp)
       ·rw [if_neg c11] at H
        exact absurd H (by simp)
      ·rw [if_neg c10] at H
       exact absurd H (by simp)
     ·rw [if_neg c8] at H
      have c8b0:decide ((Int.tmod a1 (l0.length:Int))<0)=false:=zDf c8;clear c8;obtain ⟨ji23,hji23⟩:∃ j_:Int,(Int.tmod a1 (l0.length:Int))=j_:=⟨_,rfl⟩
      replace H:(if 0≤(ji23) then (if (ji23)≤(l0.length:Int) then (if ([]:List Int).length+(l0.drop ((ji23):Int).toNat).length<17592186044416 then ((some (([]:List Int) ++ (l0.drop ((ji23):Int).toNat):List Int)).bind fun y460=>(if y460.length+(l0.take ((ji23):Int).toNat).length<17592186044416 then ((r6_numbered.f kj3 (y460 ++ (l0.take ((ji23):Int).toNat))).bind fun t467=>(some (t467,0))) else (none))) else (none)) else (none)) else (none))=some (r1,r2):=by first|(rw [hji23] at H;exact H)|(simp only [hji23] at H ⊢;exact H)
      (try rw [hji23] at c8b0)
      by_cases c24:0≤(ji23)
      ·rw [if_pos c24] at H
       have c24b0:=eq_true c24;have c24b1:decide (0≤(ji23))=true:=zDt c24;clear c24
       by_cases c25:(ji23)≤(l0.length:Int)
       ·rw [if_pos c25] at H
        have c25b0:=eq_true c25;have c25b1:decide ((ji23)≤(l0.length:Int))=true:=zDt c25;clear c25
        by_cases c26:([]:List Int).length+(l0.drop ((ji23):Int).toNat).length<17592186044416
        ·rw [if_pos c26] at H
         have LMc26:=As0.mk c26;clear c26;obtain ⟨y460,hy460⟩:∃ y_:List Int,y_=(([]:List Int) ++ (l0.drop ((ji23):Int).toNat)):=⟨_,rfl⟩
         replace H:(if y460.length+(l0.take ((ji23):Int).toNat).length<17592186044416 then ((r6_numbered.f kj3 (y460 ++ (l0.take ((ji23):Int).toNat))).bind fun t467=>(some (t467,0))) else (none))=some (r1,r2):=by first|(rw [hy460];with_reducible exact H)|(have H2_:=(Option.bind_some _ _).symm.trans H;rw [hy460];with_reducible exact H2_)|(have H2_:=(Option.bind_some _ _).symm.trans H;with_reducible exact H2_)|with_reducible exact H|(rw [hy460];exact H)|exact H
         have Ny460:=As0.mk hy460;clear hy460;have c27b0:=eq_true (zDo (by with_reducible assumption):0≤(ji23));have c28b0:=eq_true (zDo (by with_reducible assumption):(ji23)≤(l0.length:Int))
         by_cases c29:y460.length+(l0.take ((ji23):Int).toNat).length<17592186044416
         ·rw [if_pos c29] at H
          have LMc29:=As0.mk c29;clear c29;obtain ⟨y464,hy464⟩:∃ y_:List Int,y_=(y460 ++ (l0.take ((ji23):Int).toNat)):=⟨_,rfl⟩
          replace H:((r6_numbered.f kj3 y464).bind fun t467=>(some (t467,0)))=some (r1,r2):=by first|(rw [hy464];with_reducible exact H)|(have H2_:=(Option.bind_some _ _).symm.trans H;rw [hy464];with_reducible exact H2_)|(have H2_:=(Option.bind_some _ _).symm.trans H;with_reducible exact H2_)|with_reducible exact H|(rw [hy464];exact H)|exact H
          have Ny464:=As0.mk hy464;clear hy464;replace H:=Option.bind_eq_some_iff.mp H;obtain ⟨t467,A300,H⟩:=H;replace H:(some (t467,0))=some (r1,r2):=H;have A30:=As0.mk A300;clear A300;simp only [Option.some.injEq,Prod.mk.injEq] at H;obtain ⟨rfl,rfl⟩:=H;obtain ⟨i031,hi031,_,hsz31,_⟩:=info_parts info3;obtain ⟨A31,hcut31,hA31,hC31⟩:=y3b (P:=Tra.prog) (Value.int .i64) 0 29 3 .i64 Tra.underlying29 hi031 hsz31 A0 c0 l0 (ji23) (zDo (by with_reducible assumption)) (zDo (by with_reducible assumption)) HC0.out;have HR459:=As0.mk (Kd.C_of_reads (h1:=fun _=>rfl) (hA31 _ (Kd.reads_of_C HR0.out)));have HC459:=As0.mk hC31;clear hA31 hC31 hi031 hsz31;go_wp2_with (first|((with_reducible refine y0p (b:=.append) (xs:=#[.tmp 29,.tmp 32]) rfl ?_);(try (refine y3s (by rfl) ?_;dsimp only));at_builtin;refine Kd.R_append_rows (Kd.int .i64) (w0:=w) w.heap.size rfl (.tmp 29) (.tmp 32) 29 3 (.int .i64 0) 8 rfl Tra.underlying29 info3 rfl (by decide) (by omega) (.slice none 0 0) ([]:List Int) (l0.drop ((ji23):Int).toNat) _ _ _ (fun _=>True) (fun _=>False) rfl rfl ?aO ?aR (fun _ _ h=>h) (fun _ h=>h.elim) ?aF ?aB ?aS ?aL ?_;(case aR=>first|(rw [← show (l0.drop ((ji23):Int).toNat).length=(l0.length - (ji23).toNat) from List.length_drop];repeat (first|exact (Kd.C_below HR459.out HB.out)|(with_reducible refine Kd.C_alloc ?_ _)|(with_reducible refine Kd.C_drewN ?_ _)|(with_reducible refine Kd.C_drew ?_)))|(repeat (first|exact (Kd.C_below HR459.out HB.out)|(with_reducible refine Kd.C_alloc ?_ _)|(with_reducible refine Kd.C_drewN ?_ _)|(with_reducible refine Kd.C_drew ?_))));(case aB=>exact (by repeat (with_reducible first|exact HB.out|apply y01|apply y00|apply y02)));(case aF=>exact (fun _ _=>trivial));(case aO=>exact ((Kd.R_nil _ _ _ _ (fun _=>True))));(case aS=>exact (y05 (by repeat (with_reducible first|exact HB.out|apply y01|apply y00|apply y02))));(case aL=>have:=LMc26.out;have hlx_:=(show (l0.drop ((ji23):Int).toNat).length=(l0.length - (ji23).toNat) from List.length_drop);omega);intro v461 w32 ho hb hg hat;rw [← Ny460.out] at ho;have n0_:=As0.mk (hb);have n1_:=As0.mk (ho);clear HB;have HB:=n0_;have HO462:=n1_;clear n0_ n1_;clear ho hb hg hat;obtain ⟨i033,hi033,_,hsz33,_⟩:=info_parts info3;obtain ⟨hcut33,hA33,hC33⟩:=y3a (P:=Tra.prog) (Value.int .i64) 0 29 3 .i64 Tra.underlying29 hi033 hsz33 A0 c0 l0 (ji23) (zDo (by with_reducible assumption)) (zDo (by with_reducible assumption)) HC0.out;have HR463:=As0.mk (Kd.C_of_reads (h1:=fun _=>rfl) (hA33 _ (Kd.reads_of_C HR0.out)));have HC463:=As0.mk hC33;clear hA33 hC33 hi033 hsz33)|((with_reducible refine y0p (b:=.append) (xs:=#[.tmp 34,.tmp 37]) rfl ?_);(try (refine y3s (by rfl) ?_;dsimp only));at_builtin;refine Kd.R_append_rows (Kd.int .i64) (w0:=w) w.heap.size rfl (.tmp 34) (.tmp 37) 29 3 (.int .i64 0) 8 rfl Tra.underlying29 info3 rfl (by decide) (by omega) v461 y460 (l0.take ((ji23):Int).toNat) _ _ _ (fun _=>True) (fun _=>False) rfl rfl ?aO ?aR (fun _ _ h=>h) (fun _ h=>h.elim) ?aF ?aB ?aS ?aL ?_;(case aR=>first|(have hx_:=Kd.C_below HR463.out HB.out;rw [show (l0.take ((ji23):Int).toNat).length=(ji23).toNat from (by rw [List.length_take];have h_:((ji23):Int)≤(l0.length:Int):=zDo (by with_reducible assumption);omega)] at hx_;repeat (first|exact hx_|(with_reducible refine Kd.C_alloc ?_ _)|(with_reducible refine Kd.C_drewN ?_ _)|(with_reducible refine Kd.C_drew ?_)))|(repeat (first|exact (Kd.C_below HR463.out HB.out)|(with_reducible refine Kd.C_alloc ?_ _)|(with_reducible refine Kd.C_drewN ?_ _)|(with_reducible refine Kd.C_drew ?_))));(case aB=>exact (by repeat (with_reducible first|exact HB.out|apply y01|apply y00|apply y02)));(case aF=>exact (fun _ _=>trivial));(case aO=>exact (by (with_reducible repeat (first|apply Kd.R_alloc|apply Kd.R_drewN|apply Kd.R_drew));exact HO462.out));(case aS=>exact (y05 (by repeat (with_reducible first|exact HB.out|apply y01|apply y00|apply y02))));(case aL=>have:=LMc29.out;have hlx_:=(show (l0.take ((ji23):Int).toNat).length=(ji23).toNat from (by rw [List.length_take];have h_:((ji23):Int)≤(l0.length:Int):=zDo (by with_reducible assumption);omega));omega);intro v465 w34 ho hb hg hat;rw [← Ny464.out] at ho;have n0_:=As0.mk (hb);have n1_:=As0.mk (ho);clear HB;clear HO462;have HB:=n0_;have HO466:=n1_;clear n0_ n1_;clear ho hb hg hat;obtain ⟨Ao35,co35,eo35⟩:=Kd.R_slice HO466.out;subst eo35)|((with_reducible refine y0d (f:=55) rfl ?_);refine y0m (some 39) rfl rfl Tra.func55 (by kernel_rfl) rfl #[.slice Ao35 y464.length co35] rfl (by (try simp only [List.map_toArray,List.map_cons,List.map_nil]);first|done|rfl|(simp only [List.length_drop,List.length_take];rfl)) ?_;(with_reducible refine (r6_numbered.calls kj3 _ _ y464 t467 _ ?side1 ?side2 A30.out).mono ?_);(case side1=>repeat (first|exact (Kd.R_reads' HO466.out).2.2|(with_reducible refine Kd.C_alloc ?_ _)|(with_reducible refine Kd.C_drewN ?_ _)|(with_reducible refine Kd.C_drew ?_)));(case side2=>exact (Kd.R_reads' HO466.out).2.1);rintro e w36 ⟨v468,rfl,ho0,hb⟩;refine ⟨_,rfl,?_⟩;have n0_:=As0.mk (Kd.R_elder' (by (with_reducible repeat (first|apply Kd.R_alloc|apply Kd.R_drewN|apply Kd.R_drew));exact HO466.out) (Kd.R_base ho0) hb);have n1_:=As0.mk (Kd.R_lower (Kd.R_new' ho0 (Kd.R_lt (by (with_reducible repeat (first|apply Kd.R_alloc|apply Kd.R_drewN|apply Kd.R_drew));exact HO466.out))) (y05 (by repeat (with_reducible first|exact HB.out|apply y01|apply y00|apply y02))));have n2_:=As0.mk (y07 (by repeat (with_reducible first|exact HB.out|apply y01|apply y00|apply y02)) hb);clear HO466;clear HB;have HO466:=n0_;have HO469:=n1_;have HB:=n2_;clear n0_ n1_ n2_;(try clear hb);(try clear hb2);(try clear hk);(try clear hi);(try clear ho0)))
          go_ret2
          exact ⟨_,by first|rfl|(simp [y0a,y09]<;>rfl)|(simp only [← hji23];first|rfl|(simp [y0a,y09]<;>rfl))|(simp [*,y0a,y09]<;>rfl),by (with_reducible repeat (first|apply Kd.R_alloc|apply Kd.R_drewN|apply Kd.R_drew));exact Kd.R_mono HO469.out (fun _ hk=>trivial),by repeat (with_reducible first|exact HB.out|apply y01|apply y00|apply y02)⟩
         ·rw [if_neg c29] at H
          exact absurd H (by simp)
        ·rw [if_neg c26] at H
         exact absurd H (by simp)
       ·rw [if_neg c25] at H
        exact absurd H (by simp)
      ·rw [if_neg c24] at H
       exact absurd H (by simp)
end Go.Proofs.Ytdhgeondbnpeoaa.P
namespace Go.Proofs.Ytdhgeondbnpeoaa.P
open Go.RowKit Go.Proofs.Yw.Wd Go.Proofs.Yw.La Go.Proofs.Yw.Mo
attribute [local go_sem] y13 y11 y18 y17 y0t y0s y12 y10
attribute [local go_sem high] eqA31
mutual
def w6_MobsCrosses.j0:Nat->List Int->Int->Bool->Option (Bool)
 |0,_,_,_=>none
 |k+1,x0,x1,x41=>if x41=true then (some false) else ((mobs_Between.f k x0).bind fun bt486=>((r6_Between.f k x0).bind fun bt490=>((w6_same.f k bt486.1 bt490.1).bind fun t494=>(if t494=true then (w6_MobsCrosses.j1 k x0 x1 (bt486.2 != bt490.2)) else (w6_MobsCrosses.j1 k x0 x1 true)))))
def w6_MobsCrosses.j1:Nat->List Int->Int->Bool->Option (Bool)
 |0,_,_,_=>none
 |k+1,x0,x1,x60=>if x60=true then (some false) else ((mobs_Around.f k x0 x1).bind fun bt495=>((r6_Around.f k x0 x1).bind fun bt499=>((w6_same.f k bt495.1 bt499.1).bind fun t503=>(if t503=true then (if bt495.2=bt499.2 then ((w6_alive.f).bind fun t504=>(some t504)) else (some false)) else (some false)))))
end
def w6_MobsCrosses.f (k:Nat) (l0:List Int) (a1:Int):Option (Bool):=(w6_few.f l0 ([]:List Int)).bind fun t470=>(if t470=true then ((mobs_Crossed.f k l0).bind fun bt472=>((r6_Crossed.f k l0).bind fun bt479=>(if (!(bt472.1 == bt479.1) || (!(bt472.2.1 == bt479.2.1) || (!(bt472.2.2.1 == bt479.2.2.1) || (!(bt472.2.2.2.1 == bt479.2.2.2.1)))))=true then (w6_MobsCrosses.j0 k l0 a1 true) else (if (bt472.2.2.2.2.1 != bt479.2.2.2.2.1)=true then (w6_MobsCrosses.j0 k l0 a1 true) else (w6_MobsCrosses.j0 k l0 a1 (bt472.2.2.2.2.2 != bt479.2.2.2.2.2)))))) else ((w6_alive.f).bind fun t471=>(some t471)))
theorem w6_MobsCrosses.calls (k:Nat) (A0:Option Addr) (c0:Nat) (l0:List Int) (a1:Int) (r:Bool) (w:World) (hr0:Kd.C (Kd.int .i64) w A0 l0.length l0) (hc0:l0.length≤c0) (h:w6_MobsCrosses.f k l0 a1=some r) :
  Calls Tra.prog 5 #[.slice A0 l0.length c0,.int .i64 a1] w fun e w'=>e=.returned (.bool r)∧Below w.heap.size w w':=by
 have hu31:=Tra.underlying31;have HR0:=As0.mk hr0;have HC0:=As0.mk hc0;clear hr0 hc0;have HB:=As0.mk (Below.refl w.heap.size w);have H:((w6_few.f l0 ([]:List Int)).bind fun t470=>(if t470=true then ((mobs_Crossed.f k l0).bind fun bt472=>((r6_Crossed.f k l0).bind fun bt479=>(if (!(bt472.1 == bt479.1) || (!(bt472.2.1 == bt479.2.1) || (!(bt472.2.2.1 == bt479.2.2.1) || (!(bt472.2.2.2.1 == bt479.2.2.2.1)))))=true then (w6_MobsCrosses.j0 k l0 a1 true) else (if (bt472.2.2.2.2.1 != bt479.2.2.2.2.1)=true then (w6_MobsCrosses.j0 k l0 a1 true) else (w6_MobsCrosses.j0 k l0 a1 (bt472.2.2.2.2.2 != bt479.2.2.2.2.2)))))) else ((w6_alive.f).bind fun t471=>(some t471))))=some r:=h;clear h;replace H:=Option.bind_eq_some_iff.mp H;obtain ⟨t470,A30,H⟩:=H;replace H:(if t470=true then ((mobs_Crossed.f k l0).bind fun bt472=>((r6_Crossed.f k l0).bind fun bt479=>(if (!(bt472.1 == bt479.1) || (!(bt472.2.1 == bt479.2.1) || (!(bt472.2.2.1 == bt479.2.2.1) || (!(bt472.2.2.2.1 == bt479.2.2.2.1)))))=true then (w6_MobsCrosses.j0 k l0 a1 true) else (if (bt472.2.2.2.2.1 != bt479.2.2.2.2.1)=true then (w6_MobsCrosses.j0 k l0 a1 true) else (w6_MobsCrosses.j0 k l0 a1 (bt472.2.2.2.2.2 != bt479.2.2.2.2.2)))))) else ((w6_alive.f).bind fun t471=>(some t471)))=some r:=H;have A3:=As0.mk A30;clear A30
 by_cases c4:t470=true
 ·subst c4
  have H1:((mobs_Crossed.f k l0).bind fun bt472=>((r6_Crossed.f k l0).bind fun bt479=>(if (!(bt472.1 == bt479.1) || (!(bt472.2.1 == bt479.2.1) || (!(bt472.2.2.1 == bt479.2.2.1) || (!(bt472.2.2.2.1 == bt479.2.2.2.1)))))=true then (w6_MobsCrosses.j0 k l0 a1 true) else (if (bt472.2.2.2.2.1 != bt479.2.2.2.2.1)=true then (w6_MobsCrosses.j0 k l0 a1 true) else (w6_MobsCrosses.j0 k l0 a1 (bt472.2.2.2.2.2 != bt479.2.2.2.2.2))))))=some r:=by rw [if_pos rfl] at H;exact H
  clear H;have H:=H1;clear H1;replace H:=Option.bind_eq_some_iff.mp H;obtain ⟨⟨t472,t473,t474,t475,t476,t477⟩,A50,H⟩:=H;replace H:((r6_Crossed.f k l0).bind fun bt479=>(if (!(t472 == bt479.1) || (!(t473 == bt479.2.1) || (!(t474 == bt479.2.2.1) || (!(t475 == bt479.2.2.2.1)))))=true then (w6_MobsCrosses.j0 k l0 a1 true) else (if (t476 != bt479.2.2.2.2.1)=true then (w6_MobsCrosses.j0 k l0 a1 true) else (w6_MobsCrosses.j0 k l0 a1 (t477 != bt479.2.2.2.2.2)))))=some r:=H;have A5:=As0.mk A50;clear A50;replace H:=Option.bind_eq_some_iff.mp H;obtain ⟨⟨t479,t480,t481,t482,t483,t484⟩,A60,H⟩:=H;replace H:(if (!(t472 == t479) || (!(t473 == t480) || (!(t474 == t481) || (!(t475 == t482)))))=true then (w6_MobsCrosses.j0 k l0 a1 true) else (if (t476 != t483)=true then (w6_MobsCrosses.j0 k l0 a1 true) else (w6_MobsCrosses.j0 k l0 a1 (t477 != t484))))=some r:=H;have A6:=As0.mk A60;clear A60;have HC7:=As0.mk H;clear H;go_enter Tra.func5,Tra.ntmps5
  go_upto_region 5 with (first|((with_reducible refine y0d (f:=22) rfl ?_);refine y0m (some 14) rfl rfl Tra.func22 (by kernel_rfl) rfl #[.slice A0 l0.length c0,.slice none 0 0] rfl (by (try simp only [List.map_toArray,List.map_cons,List.map_nil]);first|done|rfl|(simp only [List.length_drop,List.length_take];rfl)) ?_;(refine (w6_few.calls _ _ l0 _ _ ([]:List Int) true _ ?side1 ?side2 ?side3 ?side4 A3.out).mono ?_);(case side1=>repeat (first|exact HR0.out|(with_reducible refine Kd.C_alloc ?_ _)|(with_reducible refine Kd.C_drewN ?_ _)|(with_reducible refine Kd.C_drew ?_)));(case side2=>exact HC0.out);(case side3=>exact Kd.C_nil _ _);(case side4=>exact zLe _);rintro e w' ⟨rfl,⟨nd,rfl⟩⟩;refine ⟨_,rfl,?_⟩)|((with_reducible refine y0d (f:=23) rfl ?_);refine y0m (some 19) rfl rfl Tra.func23 (by kernel_rfl) rfl #[.slice A0 l0.length c0] rfl (by (try simp only [List.map_toArray,List.map_cons,List.map_nil]);first|done|rfl|(simp only [List.length_drop,List.length_take];rfl)) ?_;(with_reducible refine (mobs_Crossed.calls k (fun k_=>k_<w.heap.size) _ _ l0 t472 t473 t474 t475 t476 t477 _ ?side1 A5.out).mono ?_);(case side1=>exact Kd.V_mk HC0.out (Kd.F_below (Kd.C_F (Kd.heap_int .i64) HR0.out) (by repeat (with_reducible first|exact HB.out|apply y01|apply y00|apply y02))));rintro e w8 ⟨rfl,hb⟩;refine ⟨_,rfl,?_⟩;have n0_:=As0.mk (y07 (by repeat (with_reducible first|exact HB.out|apply y01|apply y00|apply y02)) hb);clear HB;have HB:=n0_;clear n0_;(try clear hb);(try clear hb2);(try clear hk);(try clear hi))|((with_reducible refine y0i (N:=5) rfl ?_);refine y0q ?hg (N:=5) ?hd (cs:=#[.int .i64 0,.int .i64 0,.int .i64 0,.int .i64 0]) (t:=31) ?hr ?_;(case hd=>rfl);(case hg=>rfl);(case hr=>first|(go_simp;done)|(go_simp;rfl));intro gb478 hg w9 hbox hb;have n0_:=As0.mk (y07 (by repeat (with_reducible first|exact HB.out|apply y01|apply y00|apply y02)) hb);have n1_:=As0.mk (hbox);have n2_:=As0.mk ((by rw [hg];exact (y05 (by repeat (with_reducible first|exact HB.out|apply y01|apply y00|apply y02))):w.heap.size≤gb478));have n3_:=As0.mk ((by rw [hg];exact (y05 (by repeat (with_reducible first|exact HB.out|apply y01|apply y00|apply y02))):w.heap.size≤gb478));clear HB;have HB:=n0_;have BK478:=n1_;have GW478:=n2_;have GE478:=n3_;clear n0_ n1_ n2_ n3_;clear hb hbox hg;have hcz10_0:w9.cell? ⟨gb478,0,none⟩=some (.int .i64 0):=(y08 BK478.out 0).trans rfl;have hcz10_1:w9.cell? ⟨gb478,1,none⟩=some (.int .i64 0):=(y08 BK478.out 1).trans rfl;have hcz10_2:w9.cell? ⟨gb478,2,none⟩=some (.int .i64 0):=(y08 BK478.out 2).trans rfl;have hcz10_3:w9.cell? ⟨gb478,3,none⟩=some (.int .i64 0):=(y08 BK478.out 3).trans rfl;have hfz10_0:=y06 BK478.out 0;have hfz10_1:=y06 BK478.out 1;have hfz10_2:=y06 BK478.out 2;have hfz10_3:=y06 BK478.out 3)|((with_reducible refine y0d (f:=24) rfl ?_);refine y0m (some 25) rfl rfl Tra.func24 (by kernel_rfl) rfl #[.slice A0 l0.length c0] rfl (by (try simp only [List.map_toArray,List.map_cons,List.map_nil]);first|done|rfl|(simp only [List.length_drop,List.length_take];rfl)) ?_;(with_reducible refine (r6_Crossed.calls k _ _ l0 t479 t480 t481 t482 t483 t484 _ ?side1 ?side2 A6.out).mono ?_);(case side1=>exact Kd.C_below HR0.out (by repeat (with_reducible first|exact HB.out|apply y01|apply y00|apply y02|refine y04 ?_ GE478.out)));(case side2=>exact HC0.out);rintro e w11 ⟨rfl,hb⟩;refine ⟨_,rfl,?_⟩;have n0_:=As0.mk (y0h (g:=gb478) (o:=.cells #[.int .i64 t472,.int .i64 t473,.int .i64 t474,.int .i64 t475] 31 (0,0)) (by (with_reducible repeat (first|refine y03 ?_ _|refine blk_drew ?_|refine blk_alloc ?_ _));refine y0g (cs:=#[.int .i64 t472,.int .i64 t473,.int .i64 t474,.int .i64 0]) ?_ 3 _ rfl;(with_reducible repeat (first|refine y03 ?_ _|refine blk_drew ?_|refine blk_alloc ?_ _));refine y0g (cs:=#[.int .i64 t472,.int .i64 t473,.int .i64 0,.int .i64 0]) ?_ 2 _ rfl;(with_reducible repeat (first|refine y03 ?_ _|refine blk_drew ?_|refine blk_alloc ?_ _));refine y0g (cs:=#[.int .i64 t472,.int .i64 0,.int .i64 0,.int .i64 0]) ?_ 1 _ rfl;(with_reducible repeat (first|refine y03 ?_ _|refine blk_drew ?_|refine blk_alloc ?_ _));refine y0g (cs:=#[.int .i64 0,.int .i64 0,.int .i64 0,.int .i64 0]) ?_ 0 _ rfl;(with_reducible repeat (first|refine y03 ?_ _|refine blk_drew ?_|refine blk_alloc ?_ _));exact BK478.out) hb);have n1_:=As0.mk (y07 (by repeat (with_reducible first|exact HB.out|apply y01|apply y00|apply y02|refine y04 ?_ GE478.out)) hb);clear BK478;clear HB;have BK478:=n0_;have HB:=n1_;clear n0_ n1_;(try clear hb);(try clear hb2);(try clear hk);(try clear hi))|((with_reducible refine y0i (N:=8) rfl ?_);refine y0q ?hg (N:=8) ?hd (cs:=#[.int .i64 0,.int .i64 0,.int .i64 0,.int .i64 0]) (t:=31) ?hr ?_;(case hd=>rfl);(case hg=>rfl);(case hr=>first|(go_simp;done)|(go_simp;rfl));intro gb485 hg w12 hbox hb;have n0_:=As0.mk (y0h (g:=gb478) (o:=.cells #[.int .i64 t472,.int .i64 t473,.int .i64 t474,.int .i64 t475] 31 (0,0)) (by (with_reducible repeat (first|refine y03 ?_ _|refine blk_drew ?_|refine blk_alloc ?_ _));exact BK478.out) hb);have n1_:=As0.mk (y07 (by repeat (with_reducible first|exact HB.out|apply y01|apply y00|apply y02|refine y04 ?_ GE478.out)) hb);have n2_:=As0.mk (hbox);have n3_:=As0.mk ((by rw [hg];exact (y05 (by repeat (with_reducible first|exact HB.out|apply y01|apply y00|apply y02|refine y04 ?_ GE478.out))):w.heap.size≤gb485));have n4_:=As0.mk ((by rw [hg];exact (y05 (by repeat (with_reducible first|exact HB.out|apply y01|apply y00|apply y02|refine y04 ?_ GE478.out))):w.heap.size≤gb485));have n5_:=As0.mk ((by rw [hg];exact Nat.ne_of_lt (y3f (g:=gb478) (o:=.cells #[.int .i64 t472,.int .i64 t473,.int .i64 t474,.int .i64 t475] 31 (0,0)) (by (with_reducible repeat (first|refine y03 ?_ _|refine blk_drew ?_|refine blk_alloc ?_ _));exact BK478.out)):gb478≠gb485));have n6_:=As0.mk ((by rw [hg];exact Nat.ne_of_gt (y3f (g:=gb478) (o:=.cells #[.int .i64 t472,.int .i64 t473,.int .i64 t474,.int .i64 t475] 31 (0,0)) (by (with_reducible repeat (first|refine y03 ?_ _|refine blk_drew ?_|refine blk_alloc ?_ _));exact BK478.out)):gb485≠gb478));clear BK478;clear HB;have BK478:=n0_;have HB:=n1_;have BK485:=n2_;have GW485:=n3_;have GE485:=n4_;have NB478_485:=n5_;have NB485_478:=n6_;clear n0_ n1_ n2_ n3_ n4_ n5_ n6_;clear hb hbox hg;have hnb13:=NB485_478.out;have hnc13:=NB478_485.out;have hcz14_0:w12.cell? ⟨gb485,0,none⟩=some (.int .i64 0):=(y08 BK485.out 0).trans rfl;have hcz14_1:w12.cell? ⟨gb485,1,none⟩=some (.int .i64 0):=(y08 BK485.out 1).trans rfl;have hcz14_2:w12.cell? ⟨gb485,2,none⟩=some (.int .i64 0):=(y08 BK485.out 2).trans rfl;have hcz14_3:w12.cell? ⟨gb485,3,none⟩=some (.int .i64 0):=(y08 BK485.out 3).trans rfl;have hfz14_0:=y06 BK485.out 0;have hfz14_1:=y06 BK485.out 1;have hfz14_2:=y06 BK485.out 2;have hfz14_3:=y06 BK485.out 3))
  (try simp only [Act.put,List.setIfInBounds_toArray,List.set_cons_zero,List.set_cons_succ])
  go_cut [41] (fun v41 wc=>∃ (kq:Nat) (x41_6:Bool),v41=.bool x41_6∧As0 (w6_MobsCrosses.j0 kq l0 a1 x41_6=some r)∧As0 (kq≤k)∧As0 (wc.heap[gb478]?=some (.cells #[.int .i64 t472,.int .i64 t473,.int .i64 t474,.int .i64 t475] 31 (0,0)))∧As0 (wc.heap[gb485]?=some (.cells #[.int .i64 t479,.int .i64 t480,.int .i64 t481,.int .i64 t482] 31 (0,0)))∧As0 (Below w.heap.size w wc))
  case first =>
   have H:=HC7.out;clear HC7
   by_cases c15:(!(t472 == t479) || (!(t473 == t480) || (!(t474 == t481) || (!(t475 == t482)))))=true
   ·rw [if_pos c15] at H
    have c15b0:(!(t472 == t479) || (!(t473 == t480) || (!(t474 == t481) || (!(t475 == t482)))))=true:=c15;clear c15
    (first|rw [c15b0]|(simp only [y0r,y0w];rw [c15b0])|skip)
    have H':=As0.mk H;clear H;have hnb16:=NB478_485.out;have hnc16:=NB485_478.out;have hcz17_0:w12.cell? ⟨gb478,0,none⟩=some (.int .i64 t472):=(y08 BK478.out 0).trans rfl;have hcz17_1:w12.cell? ⟨gb478,1,none⟩=some (.int .i64 t473):=(y08 BK478.out 1).trans rfl;have hcz17_2:w12.cell? ⟨gb478,2,none⟩=some (.int .i64 t474):=(y08 BK478.out 2).trans rfl;have hcz17_3:w12.cell? ⟨gb478,3,none⟩=some (.int .i64 t475):=(y08 BK478.out 3).trans rfl;have hfz17_0:=y06 BK478.out 0;have hfz17_1:=y06 BK478.out 1;have hfz17_2:=y06 BK478.out 2;have hfz17_3:=y06 BK478.out 3;have hcz18_0:w12.cell? ⟨gb485,0,none⟩=some (.int .i64 0):=(y08 BK485.out 0).trans rfl;have hcz18_1:w12.cell? ⟨gb485,1,none⟩=some (.int .i64 0):=(y08 BK485.out 1).trans rfl;have hcz18_2:w12.cell? ⟨gb485,2,none⟩=some (.int .i64 0):=(y08 BK485.out 2).trans rfl;have hcz18_3:w12.cell? ⟨gb485,3,none⟩=some (.int .i64 0):=(y08 BK485.out 3).trans rfl;have hfz18_0:=y06 BK485.out 0;have hfz18_1:=y06 BK485.out 1;have hfz18_2:=y06 BK485.out 2;have hfz18_3:=y06 BK485.out 3;go_wp2
    go_meet
    case rel=>exact ⟨_,(true),(by first|rfl|(simp;done)|(simp [*];done)),H',⟨by first|omega|exact zLe _⟩,⟨by (with_reducible repeat (first|refine y03 ?_ _|refine blk_drew ?_|refine blk_alloc ?_ _));refine y1a ?_ NB478_485.out _;(with_reducible repeat (first|refine y03 ?_ _|refine blk_drew ?_|refine blk_alloc ?_ _));refine y1a ?_ NB478_485.out _;(with_reducible repeat (first|refine y03 ?_ _|refine blk_drew ?_|refine blk_alloc ?_ _));refine y1a ?_ NB478_485.out _;(with_reducible repeat (first|refine y03 ?_ _|refine blk_drew ?_|refine blk_alloc ?_ _));refine y1a ?_ NB478_485.out _;(with_reducible repeat (first|refine y03 ?_ _|refine blk_drew ?_|refine blk_alloc ?_ _));exact BK478.out⟩,⟨by (with_reducible repeat (first|refine y03 ?_ _|refine blk_drew ?_|refine blk_alloc ?_ _));refine y0g (cs:=#[.int .i64 t479,.int .i64 t480,.int .i64 t481,.int .i64 0]) ?_ 3 _ rfl;(with_reducible repeat (first|refine y03 ?_ _|refine blk_drew ?_|refine blk_alloc ?_ _));refine y0g (cs:=#[.int .i64 t479,.int .i64 t480,.int .i64 0,.int .i64 0]) ?_ 2 _ rfl;(with_reducible repeat (first|refine y03 ?_ _|refine blk_drew ?_|refine blk_alloc ?_ _));refine y0g (cs:=#[.int .i64 t479,.int .i64 0,.int .i64 0,.int .i64 0]) ?_ 1 _ rfl;(with_reducible repeat (first|refine y03 ?_ _|refine blk_drew ?_|refine blk_alloc ?_ _));refine y0g (cs:=#[.int .i64 0,.int .i64 0,.int .i64 0,.int .i64 0]) ?_ 0 _ rfl;(with_reducible repeat (first|refine y03 ?_ _|refine blk_drew ?_|refine blk_alloc ?_ _));exact BK485.out⟩,⟨by repeat (with_reducible first|exact HB.out|apply y01|apply y00|apply y02|refine y04 ?_ GE478.out|refine y04 ?_ GE485.out)⟩⟩
   ·rw [if_neg c15] at H
    have c15b0:(!(t472 == t479) || (!(t473 == t480) || (!(t474 == t481) || (!(t475 == t482)))))=false:=by simpa using c15
    clear c15
    (first|rw [c15b0]|(simp only [y0r,y0w];rw [c15b0])|skip)
    by_cases c19:(t476 != t483)=true
    ·rw [if_pos c19] at H
     have c19b0:(t476 != t483)=true:=c19
     (try (have c19b1:decide (t476=t483)=false:=by simpa using c19))
     (try (have c19b2:(t476 == t483)=false:=by simpa using c19))
     (try (have c19b3:¬ (t476=t483):=by simpa using c19))
     clear c19;have H':=As0.mk H;clear H;have hnb20:=NB478_485.out;have hnc20:=NB485_478.out;have hcz21_0:w12.cell? ⟨gb478,0,none⟩=some (.int .i64 t472):=(y08 BK478.out 0).trans rfl;have hcz21_1:w12.cell? ⟨gb478,1,none⟩=some (.int .i64 t473):=(y08 BK478.out 1).trans rfl;have hcz21_2:w12.cell? ⟨gb478,2,none⟩=some (.int .i64 t474):=(y08 BK478.out 2).trans rfl;have hcz21_3:w12.cell? ⟨gb478,3,none⟩=some (.int .i64 t475):=(y08 BK478.out 3).trans rfl;have hfz21_0:=y06 BK478.out 0;have hfz21_1:=y06 BK478.out 1;have hfz21_2:=y06 BK478.out 2;have hfz21_3:=y06 BK478.out 3;have hcz22_0:w12.cell? ⟨gb485,0,none⟩=some (.int .i64 0):=(y08 BK485.out 0).trans rfl;have hcz22_1:w12.cell? ⟨gb485,1,none⟩=some (.int .i64 0):=(y08 BK485.out 1).trans rfl;have hcz22_2:w12.cell? ⟨gb485,2,none⟩=some (.int .i64 0):=(y08 BK485.out 2).trans rfl;have hcz22_3:w12.cell? ⟨gb485,3,none⟩=some (.int .i64 0):=(y08 BK485.out 3).trans rfl;have hfz22_0:=y06 BK485.out 0;have hfz22_1:=y06 BK485.out 1;have hfz22_2:=y06 BK485.out 2;have hfz22_3:=y06 BK485.out 3;go_wp2
     go_meet
     case rel=>exact ⟨_,(true),(by first|rfl|(simp;done)|(simp [*];done)),H',⟨by first|omega|exact zLe _⟩,⟨by (with_reducible repeat (first|refine y03 ?_ _|refine blk_drew ?_|refine blk_alloc ?_ _));refine y1a ?_ NB478_485.out _;(with_reducible repeat (first|refine y03 ?_ _|refine blk_drew ?_|refine blk_alloc ?_ _));refine y1a ?_ NB478_485.out _;(with_reducible repeat (first|refine y03 ?_ _|refine blk_drew ?_|refine blk_alloc ?_ _));refine y1a ?_ NB478_485.out _;(with_reducible repeat (first|refine y03 ?_ _|refine blk_drew ?_|refine blk_alloc ?_ _));refine y1a ?_ NB478_485.out _;(with_reducible repeat (first|refine y03 ?_ _|refine blk_drew ?_|refine blk_alloc ?_ _));exact BK478.out⟩,⟨by (with_reducible repeat (first|refine y03 ?_ _|refine blk_drew ?_|refine blk_alloc ?_ _));refine y0g (cs:=#[.int .i64 t479,.int .i64 t480,.int .i64 t481,.int .i64 0]) ?_ 3 _ rfl;(with_reducible repeat (first|refine y03 ?_ _|refine blk_drew ?_|refine blk_alloc ?_ _));refine y0g (cs:=#[.int .i64 t479,.int .i64 t480,.int .i64 0,.int .i64 0]) ?_ 2 _ rfl;(with_reducible repeat (first|refine y03 ?_ _|refine blk_drew ?_|refine blk_alloc ?_ _));refine y0g (cs:=#[.int .i64 t479,.int .i64 0,.int .i64 0,.int .i64 0]) ?_ 1 _ rfl;(with_reducible repeat (first|refine y03 ?_ _|refine blk_drew ?_|refine blk_alloc ?_ _));refine y0g (cs:=#[.int .i64 0,.int .i64 0,.int .i64 0,.int .i64 0]) ?_ 0 _ rfl;(with_reducible repeat (first|refine y03 ?_ _|refine blk_drew ?_|refine blk_alloc ?_ _));exact BK485.out⟩,⟨by repeat (with_reducible first|exact HB.out|apply y01|apply y00|apply y02|refine y04 ?_ GE478.out|refine y04 ?_ GE485.out)⟩⟩
    ·rw [if_neg c19] at H
     have c19b0:(t476 != t483)=false:=by simpa using c19
     (try (have c19b1:decide (t476=t483)=true:=by simpa using c19))
     (try (have c19b2:(t476 == t483)=true:=by simpa using c19))
     clear c19;have H':=As0.mk H;clear H;have hnb23:=NB478_485.out;have hnc23:=NB485_478.out;have hcz24_0:w12.cell? ⟨gb478,0,none⟩=some (.int .i64 t472):=(y08 BK478.out 0).trans rfl;have hcz24_1:w12.cell? ⟨gb478,1,none⟩=some (.int .i64 t473):=(y08 BK478.out 1).trans rfl;have hcz24_2:w12.cell? ⟨gb478,2,none⟩=some (.int .i64 t474):=(y08 BK478.out 2).trans rfl;have hcz24_3:w12.cell? ⟨gb478,3,none⟩=some (.int .i64 t475):=(y08 BK478.out 3).trans rfl;have hfz24_0:=y06 BK478.out 0;have hfz24_1:=y06 BK478.out 1;have hfz24_2:=y06 BK478.out 2;have hfz24_3:=y06 BK478.out 3;have hcz25_0:w12.cell? ⟨gb485,0,none⟩=some (.int .i64 0):=(y08 BK485.out 0).trans rfl;have hcz25_1:w12.cell? ⟨gb485,1,none⟩=some (.int .i64 0):=(y08 BK485.out 1).trans rfl;have hcz25_2:w12.cell? ⟨gb485,2,none⟩=some (.int .i64 0):=(y08 BK485.out 2).trans rfl;have hcz25_3:w12.cell? ⟨gb485,3,none⟩=some (.int .i64 0):=(y08 BK485.out 3).trans rfl;have hfz25_0:=y06 BK485.out 0;have hfz25_1:=y06 BK485.out 1;have hfz25_2:=y06 BK485.out 2;have hfz25_3:=y06 BK485.out 3;go_wp2
     go_meet
     case rel=>exact ⟨_,((t477 != t484)),(by first|rfl|(simp;done)|(simp [*];done)),H',⟨by first|omega|exact zLe _⟩,⟨by (with_reducible repeat (first|refine y03 ?_ _|refine blk_drew ?_|refine blk_alloc ?_ _));refine y1a ?_ NB478_485.out _;(with_reducible repeat (first|refine y03 ?_ _|refine blk_drew ?_|refine blk_alloc ?_ _));refine y1a ?_ NB478_485.out _;(with_reducible repeat (first|refine y03 ?_ _|refine blk_drew ?_|refine blk_alloc ?_ _));refine y1a ?_ NB478_485.out _;(with_reducible repeat (first|refine y03 ?_ _|refine blk_drew ?_|refine blk_alloc ?_ _));refine y1a ?_ NB478_485.out _;(with_reducible repeat (first|refine y03 ?_ _|refine blk_drew ?_|refine blk_alloc ?_ _));exact BK478.out⟩,⟨by (with_reducible repeat (first|refine y03 ?_ _|refine blk_drew ?_|refine blk_alloc ?_ _));refine y0g (cs:=#[.int .i64 t479,.int .i64 t480,.int .i64 t481,.int .i64 0]) ?_ 3 _ rfl;(with_reducible repeat (first|refine y03 ?_ _|refine blk_drew ?_|refine blk_alloc ?_ _));refine y0g (cs:=#[.int .i64 t479,.int .i64 t480,.int .i64 0,.int .i64 0]) ?_ 2 _ rfl;(with_reducible repeat (first|refine y03 ?_ _|refine blk_drew ?_|refine blk_alloc ?_ _));refine y0g (cs:=#[.int .i64 t479,.int .i64 0,.int .i64 0,.int .i64 0]) ?_ 1 _ rfl;(with_reducible repeat (first|refine y03 ?_ _|refine blk_drew ?_|refine blk_alloc ?_ _));refine y0g (cs:=#[.int .i64 0,.int .i64 0,.int .i64 0,.int .i64 0]) ?_ 0 _ rfl;(with_reducible repeat (first|refine y03 ?_ _|refine blk_drew ?_|refine blk_alloc ?_ _));exact BK485.out⟩,⟨by repeat (with_reducible first|exact HB.out|apply y01|apply y00|apply y02|refine y04 ?_ GE478.out|refine y04 ?_ GE485.out)⟩⟩
  case rest =>
   clear HC7
   try clear c1
   try clear c2
   try clear p2
   try clear c4
   try clear c5
   try clear c13
   try clear c15
   try clear c15b0
   try clear c16
   try clear c19
   try clear c19b0
   try clear c19b1
   try clear c19b2
   try clear c20
   try clear c22
   try clear c23
   try clear c24
   try clear hcz10_0
   try clear hcz10_1
   try clear hcz10_2
   try clear hcz10_3
   try clear hcz14_0
   try clear hcz14_1
   try clear hcz14_2
   try clear hcz14_3
   try clear hcz17_0
   try clear hcz17_1
   try clear hcz17_2
   try clear hcz17_3
   try clear hcz18_0
   try clear hcz18_1
   try clear hcz18_2
   try clear hcz18_3
   try clear hcz21_0
   try clear hcz21_1
   try clear hcz21_2
   try clear hcz21_3
   try clear hcz22_0
   try clear hcz22_1
   try clear hcz22_2
   try clear hcz22_3
   try clear hcz24_0
   try clear hcz24_1
   try clear hcz24_2
   try clear hcz24_3
   try clear hcz25_0
   try clear hcz25_1
   try clear hcz25_2
   try clear hcz25_3
   try clear hfz10_0
   try clear hfz10_1
   try clear hfz10_2
   try clear hfz10_3
   try clear hfz14_0
   try clear hfz14_1
   try clear hfz14_2
   try clear hfz14_3
   try clear hfz17_0
   try clear hfz17_1
   try clear hfz17_2
   try clear hfz17_3
   try clear hfz18_0
   try clear hfz18_1
   try clear hfz18_2
   try clear hfz18_3
   try clear hfz21_0
   try clear hfz21_1
   try clear hfz21_2
   try clear hfz21_3
   try clear hfz22_0
   try clear hfz22_1
   try clear hfz22_2
   try clear hfz22_3
   try clear hfz24_0
   try clear hfz24_1
   try clear hfz24_2
   try clear hfz24_3
   try clear hfz25_0
   try clear hfz25_1
   try clear hfz25_2
   try clear hfz25_3
   obtain ⟨kq,x41_6,rfl,HA,HJ6,BK478,BK485,HB⟩:=hcut;cases kq with
   |zero=>exact absurd HA.out (by simp [w6_MobsCrosses.j0])
   |succ kj6 =>
    have H:=HA.out;clear HA;simp only [w6_MobsCrosses.j0] at H
    by_cases c26:x41_6=true
    ·subst c26
     have H1:(some false)=some r:=by rw [if_pos rfl] at H;exact H
     clear H;have H:=H1;clear H1;obtain rfl:=zSi H;go_wp2
     go_ret
     exact ⟨by first|rfl|(simp [y0a,y09]<;>rfl)|(simp [*,y0a,y09]<;>rfl),by repeat (with_reducible first|exact HB.out|apply y01|apply y00|apply y02|refine y04 ?_ GE478.out|refine y04 ?_ GE485.out)⟩
    ·replace c26:=Bool.eq_false_iff.mpr c26
     subst c26;have H1:((mobs_Between.f kj6 l0).bind fun bt486=>((r6_Between.f kj6 l0).bind fun bt490=>((w6_same.f kj6 bt486.1 bt490.1).bind fun t494=>(if t494=true then (w6_MobsCrosses.j1 kj6 l0 a1 (bt486.2 != bt490.2)) else (w6_MobsCrosses.j1 kj6 l0 a1 true)))))=some r:=by rw [if_neg (show ¬ (false=true) by decide)] at H;exact H
     clear H;have H:=H1;clear H1;replace H:=Option.bind_eq_some_iff.mp H;obtain ⟨⟨t486,t489⟩,A270,H⟩:=H;replace H:((r6_Between.f kj6 l0).bind fun bt490=>((w6_same.f kj6 t486 bt490.1).bind fun t494=>(if t494=true then (w6_MobsCrosses.j1 kj6 l0 a1 (t489 != bt490.2)) else (w6_MobsCrosses.j1 kj6 l0 a1 true))))=some r:=H;have A27:=As0.mk A270;clear A270;replace H:=Option.bind_eq_some_iff.mp H;obtain ⟨⟨t490,t491⟩,A280,H⟩:=H;replace H:((w6_same.f kj6 t486 t490).bind fun t494=>(if t494=true then (w6_MobsCrosses.j1 kj6 l0 a1 (t489 != t491)) else (w6_MobsCrosses.j1 kj6 l0 a1 true)))=some r:=H;have A28:=As0.mk A280;clear A280;have HC29:=As0.mk H;clear H;go_upto_region 9 with (first|((with_reducible refine y0d (f:=25) rfl ?_);refine y0m (some 44) rfl rfl Tra.func25 (by kernel_rfl) rfl #[.slice A0 l0.length c0] rfl (by (try simp only [List.map_toArray,List.map_cons,List.map_nil]);first|done|rfl|(simp only [List.length_drop,List.length_take];rfl)) ?_;(with_reducible refine (mobs_Between.calls kj6 (fun k_=>k_<w.heap.size) _ _ l0 t486 t489 _ ?side1 A27.out).mono ?_);(case side1=>exact Kd.V_mk HC0.out (Kd.F_below (Kd.C_F (Kd.heap_int .i64) HR0.out) (by repeat (with_reducible first|exact HB.out|apply y01|apply y00|apply y02|refine y04 ?_ GE478.out|refine y04 ?_ GE485.out))));rintro e w30 ⟨v487,rfl,ho0,hb⟩;refine ⟨_,rfl,?_⟩;have n0_:=As0.mk (Kd.R_lower (Kd.R_mono (ok':=fun k_=>True) ho0 (fun _ hk_=>trivial)) (y05 (by repeat (with_reducible first|exact HB.out|apply y01|apply y00|apply y02|refine y04 ?_ GE478.out|refine y04 ?_ GE485.out))));have n1_:=As0.mk (y0h (g:=gb478) (o:=.cells #[.int .i64 t472,.int .i64 t473,.int .i64 t474,.int .i64 t475] 31 (0,0)) (by (with_reducible repeat (first|refine y03 ?_ _|refine blk_drew ?_|refine blk_alloc ?_ _));exact BK478.out) hb);have n2_:=As0.mk (y0h (g:=gb485) (o:=.cells #[.int .i64 t479,.int .i64 t480,.int .i64 t481,.int .i64 t482] 31 (0,0)) (by (with_reducible repeat (first|refine y03 ?_ _|refine blk_drew ?_|refine blk_alloc ?_ _));exact BK485.out) hb);have n3_:=As0.mk (y07 (by repeat (with_reducible first|exact HB.out|apply y01|apply y00|apply y02|refine y04 ?_ GE478.out|refine y04 ?_ GE485.out)) hb);clear BK478;clear BK485;clear HB;have HO488:=n0_;have BK478:=n1_;have BK485:=n2_;have HB:=n3_;clear n0_ n1_ n2_ n3_;(try clear hb);(try clear hb2);(try clear hk);(try clear hi);(try clear ho0))|((with_reducible refine y0d (f:=26) rfl ?_);refine y0m (some 49) rfl rfl Tra.func26 (by kernel_rfl) rfl #[.slice A0 l0.length c0] rfl (by (try simp only [List.map_toArray,List.map_cons,List.map_nil]);first|done|rfl|(simp only [List.length_drop,List.length_take];rfl)) ?_;(with_reducible refine (r6_Between.calls kj6 _ _ l0 t490 t491 _ ?side1 ?side2 A28.out).mono ?_);(case side1=>repeat (first|exact (Kd.C_below HR0.out HB.out)|(with_reducible refine Kd.C_alloc ?_ _)|(with_reducible refine Kd.C_drewN ?_ _)|(with_reducible refine Kd.C_drew ?_)));(case side2=>exact HC0.out);rintro e w31 ⟨v492,rfl,ho0,hb⟩;refine ⟨_,rfl,?_⟩;have n0_:=As0.mk (Kd.R_elder' (by (with_reducible repeat (first|apply Kd.R_alloc|apply Kd.R_drewN|apply Kd.R_drew));exact HO488.out) (Kd.R_base ho0) hb);have n1_:=As0.mk (Kd.R_lower (Kd.R_new' ho0 (Kd.R_lt (by (with_reducible repeat (first|apply Kd.R_alloc|apply Kd.R_drewN|apply Kd.R_drew));exact HO488.out))) (y05 (by repeat (with_reducible first|exact HB.out|apply y01|apply y00|apply y02|refine y04 ?_ GE478.out|refine y04 ?_ GE485.out))));have n2_:=As0.mk (y0h (g:=gb478) (o:=.cells #[.int .i64 t472,.int .i64 t473,.int .i64 t474,.int .i64 t475] 31 (0,0)) (by (with_reducible repeat (first|refine y03 ?_ _|refine blk_drew ?_|refine blk_alloc ?_ _));exact BK478.out) hb);have n3_:=As0.mk (y0h (g:=gb485) (o:=.cells #[.int .i64 t479,.int .i64 t480,.int .i64 t481,.int .i64 t482] 31 (0,0)) (by (with_reducible repeat (first|refine y03 ?_ _|refine blk_drew ?_|refine blk_alloc ?_ _));exact BK485.out) hb);have n4_:=As0.mk (y07 (by repeat (with_reducible first|exact HB.out|apply y01|apply y00|apply y02|refine y04 ?_ GE478.out|refine y04 ?_ GE485.out)) hb);clear HO488;clear BK478;clear BK485;clear HB;have HO488:=n0_;have HO493:=n1_;have BK478:=n2_;have BK485:=n3_;have HB:=n4_;clear n0_ n1_ n2_ n3_ n4_;(try clear hb);(try clear hb2);(try clear hk);(try clear hi);(try clear ho0)))
     (try simp only [Act.put,List.setIfInBounds_toArray,List.set_cons_zero,List.set_cons_succ])
     go_cut [60] (fun v60 wc=>∃ (kq:Nat) (x60_28:Bool),v60=.bool x60_28∧As0 (w6_MobsCrosses.j1 kq l0 a1 x60_28=some r)∧As0 (kq≤kj6)∧As0 (wc.heap[gb478]?=some (.cells #[.int .i64 t472,.int .i64 t473,.int .i64 t474,.int .i64 t475] 31 (0,0)))∧As0 (wc.heap[gb485]?=some (.cells #[.int .i64 t479,.int .i64 t480,.int .i64 t481,.int .i64 t482] 31 (0,0)))∧As0 (Below w.heap.size w wc))
     case first =>
      have H:=HC29.out;clear HC29;replace H:=Option.bind_eq_some_iff.mp H;obtain ⟨t494,A320,H⟩:=H;replace H:(if t494=true then (w6_MobsCrosses.j1 kj6 l0 a1 (t489 != t491)) else (w6_MobsCrosses.j1 kj6 l0 a1 true))=some r:=H;have A32:=As0.mk A320;clear A320
      by_cases c33:t494=true
      ·subst c33
       have H1:(w6_MobsCrosses.j1 kj6 l0 a1 (t489 != t491))=some r:=by rw [if_pos rfl] at H;exact H
       clear H;have H:=H1;clear H1;have H':=As0.mk H;clear H;obtain ⟨Ao34,co34,eo34⟩:=Kd.R_slice HO488.out;subst eo34;obtain ⟨Ao35,co35,eo35⟩:=Kd.R_slice HO493.out;subst eo35;go_wp2_with (first|((with_reducible refine y0d (f:=27) rfl ?_);refine y0m (some 54) rfl rfl Tra.func27 (by kernel_rfl) rfl #[.slice Ao34 t486.length co34,.slice Ao35 t490.length co35] rfl (by (try simp only [List.map_toArray,List.map_cons,List.map_nil]);first|done|rfl|(simp only [List.length_drop,List.length_take];rfl)) ?_;(with_reducible refine (w6_same.calls kj6 _ _ t486 _ _ t490 true _ ?side1 ?side2 ?side3 ?side4 A32.out).mono ?_);(case side1=>repeat (first|exact (Kd.R_reads' HO488.out).2.2|(with_reducible refine Kd.C_alloc ?_ _)|(with_reducible refine Kd.C_drewN ?_ _)|(with_reducible refine Kd.C_drew ?_)));(case side2=>exact (Kd.R_reads' HO488.out).2.1);(case side3=>repeat (first|exact (Kd.R_reads' HO493.out).2.2|(with_reducible refine Kd.C_alloc ?_ _)|(with_reducible refine Kd.C_drewN ?_ _)|(with_reducible refine Kd.C_drew ?_)));(case side4=>exact (Kd.R_reads' HO493.out).2.1);rintro e w' ⟨rfl,⟨nd,rfl⟩⟩;refine ⟨_,rfl,?_⟩))
       go_meet
       case rel=>exact ⟨_,((t489 != t491)),(by first|rfl|(simp;done)|(simp [*];done)),H',⟨by have:=HJ6.out;first|omega|exact zLe _⟩,⟨by (with_reducible repeat (first|refine y03 ?_ _|refine blk_drew ?_|refine blk_alloc ?_ _));exact BK478.out⟩,⟨by (with_reducible repeat (first|refine y03 ?_ _|refine blk_drew ?_|refine blk_alloc ?_ _));exact BK485.out⟩,⟨by repeat (with_reducible first|exact HB.out|apply y01|apply y00|apply y02|refine y04 ?_ GE478.out|refine y04 ?_ GE485.out)⟩⟩
      ·replace c33:=Bool.eq_false_iff.mpr c33
       subst c33;have H1:(w6_MobsCrosses.j1 kj6 l0 a1 true)=some r:=by rw [if_neg (show ¬ (false=true) by decide)] at H;exact H
       clear H;have H:=H1;clear H1;have H':=As0.mk H;clear H;obtain ⟨Ao36,co36,eo36⟩:=Kd.R_slice HO488.out;subst eo36;obtain ⟨Ao37,co37,eo37⟩:=Kd.R_slice HO493.out;subst eo37;go_wp2_with (first|((with_reducible refine y0d (f:=27) rfl ?_);refine y0m (some 54) rfl rfl Tra.func27 (by kernel_rfl) rfl #[.slice Ao36 t486.length co36,.slice Ao37 t490.length co37] rfl (by (try simp only [List.map_toArray,List.map_cons,List.map_nil]);first|done|rfl|(simp only [List.length_drop,List.length_take];rfl)) ?_;(with_reducible refine (w6_same.calls kj6 _ _ t486 _ _ t490 false _ ?side1 ?side2 ?side3 ?side4 A32.out).mono ?_);(case side1=>repeat (first|exact (Kd.R_reads' HO488.out).2.2|(with_reducible refine Kd.C_alloc ?_ _)|(with_reducible refine Kd.C_drewN ?_ _)|(with_reducible refine Kd.C_drew ?_)));(case side2=>exact (Kd.R_reads' HO488.out).2.1);(case side3=>repeat (first|exact (Kd.R_reads' HO493.out).2.2|(with_reducible refine Kd.C_alloc ?_ _)|(with_reducible refine Kd.C_drewN ?_ _)|(with_reducible refine Kd.C_drew ?_)));(case side4=>exact (Kd.R_reads' HO493.out).2.1);rintro e w' ⟨rfl,⟨nd,rfl⟩⟩;refine ⟨_,rfl,?_⟩))
       go_meet
       case rel=>exact ⟨_,(true),(by first|rfl|(simp;done)|(simp [*];done)),H',⟨by have:=HJ6.out;first|omega|exact zLe _⟩,⟨by (with_reducible repeat (first|refine y03 ?_ _|refine blk_drew ?_|refine blk_alloc ?_ _));exact BK478.out⟩,⟨by (with_reducible repeat (first|refine y03 ?_ _|refine blk_drew ?_|refine blk_alloc ?_ _));exact BK485.out⟩,⟨by repeat (with_reducible first|exact HB.out|apply y01|apply y00|apply y02|refine y04 ?_ GE478.out|refine y04 ?_ GE485.out)⟩⟩
     case rest =>
      clear HC29
      try clear c1
      try clear c2
      try clear p2
      try clear c3
      try clear c4
      try clear c5
      try clear c13
      try clear c15
      try clear c15b0
      try clear c16
      try clear c19
      try clear c19b0
      try clear c19b1
      try clear c19b2
      try clear c20
      try clear c22
      try clear c23
      try clear c24
      try clear c25
      try clear c26
      try clear c27
      try clear c33
      try clear hcz10_0
      try clear hcz10_1
      try clear hcz10_2
      try clear hcz10_3
      try clear hcz14_0
      try clear hcz14_1
      try clear hcz14_2
      try clear hcz14_3
      try clear hcz17_0
      try clear hcz17_1
      try clear hcz17_2
      try clear hcz17_3
      try clear hcz18_0
      try clear hcz18_1
      try clear hcz18_2
      try clear hcz18_3
      try clear hcz21_0
      try clear hcz21_1
      try clear hcz21_2
      try clear hcz21_3
      try clear hcz22_0
      try clear hcz22_1
      try clear hcz22_2
      try clear hcz22_3
      try clear hcz24_0
      try clear hcz24_1
      try clear hcz24_2
      try clear hcz24_3
      try clear hcz25_0
      try clear hcz25_1
      try clear hcz25_2
      try clear hcz25_3
      try clear hfz10_0
      try clear hfz10_1
      try clear hfz10_2
      try clear hfz10_3
      try clear hfz14_0
      try clear hfz14_1
      try clear hfz14_2
      try clear hfz14_3
      try clear hfz17_0
      try clear hfz17_1
      try clear hfz17_2
      try clear hfz17_3
      try clear hfz18_0
      try clear hfz18_1
      try clear hfz18_2
      try clear hfz18_3
      try clear hfz21_0
      try clear hfz21_1
      try clear hfz21_2
      try clear hfz21_3
      try clear hfz22_0
      try clear hfz22_1
      try clear hfz22_2
      try clear hfz22_3
      try clear hfz24_0
      try clear hfz24_1
      try clear hfz24_2
      try clear hfz24_3
      try clear hfz25_0
      try clear hfz25_1
      try clear hfz25_2
      try clear hfz25_3
      try clear p2
      obtain ⟨kq,x60_28,rfl,HA,HJ28,BK478,BK485,HB⟩:=hcut;cases kq with
      |zero=>exact absurd HA.out (by simp [w6_MobsCrosses.j1])
      |succ kj28 =>
       have H:=HA.out;clear HA;simp only [w6_MobsCrosses.j1] at H
       by_cases c38:x60_28=true
       ·subst c38
        have H1:(some false)=some r:=by rw [if_pos rfl] at H;exact H
        clear H;have H:=H1;clear H1;obtain rfl:=zSi H;go_wp2
        go_ret
        exact ⟨by first|rfl|(simp [y0a,y09]<;>rfl)|(simp [*,y0a,y09]<;>rfl),by repeat (with_reducible first|exact HB.out|apply y01|apply y00|apply y02|refine y04 ?_ GE478.out|refine y04 ?_ GE485.out)⟩
       ·replace c38:=Bool.eq_false_iff.mpr c38
        subst c38;have H1:((mobs_Around.f kj28 l0 a1).bind fun bt495=>((r6_Around.f kj28 l0 a1).bind fun bt499=>((w6_same.f kj28 bt495.1 bt499.1).bind fun t503=>(if t503=true then (if bt495.2=bt499.2 then ((w6_alive.f).bind fun t504=>(some t504)) else (some false)) else (some false)))))=some r:=by rw [if_neg (show ¬ (false=true) by decide)] at H;exact H
        clear H;have H:=H1;clear H1;replace H:=Option.bind_eq_some_iff.mp H;obtain ⟨⟨t495,t498⟩,A390,H⟩:=H;replace H:((r6_Around.f kj28 l0 a1).bind fun bt499=>((w6_same.f kj28 t495 bt499.1).bind fun t503=>(if t503=true then (if t498=bt499.2 then ((w6_alive.f).bind fun t504=>(some t504)) else (some false)) else (some false))))=some r:=H;have A39:=As0.mk A390;clear A390;replace H:=Option.bind_eq_some_iff.mp H;obtain ⟨⟨t499,t500⟩,A400,H⟩:=H;replace H:((w6_same.f kj28 t495 t499).bind fun t503=>(if t503=true then (if t498=t500 then ((w6_alive.f).bind fun t504=>(some t504)) else (some false)) else (some false)))=some r:=H;have A40:=As0.mk A400;clear A400;replace H:=Option.bind_eq_some_iff.mp H;obtain ⟨t503,A410,H⟩:=H;replace H:(if t503=true then (if t498=t500 then ((w6_alive.f).bind fun t504=>(some t504)) else (some false)) else (some false))=some r:=H;have A41:=As0.mk A410;clear A410
        by_cases c42:t503=true
        ·subst c42
         have H1:(if t498=t500 then ((w6_alive.f).bind fun t504=>(some t504)) else (some false))=some r:=by rw [if_pos rfl] at H;exact H
         clear H;have H:=H1;clear H1
         by_cases c43:t498=t500
         ·rw [if_pos c43] at H
          have c43b0:(t498 == t500)=true:=beq_iff_eq.mpr c43;have c43b1:(t498 != t500)=false:=bne_eq_false_iff_eq.mpr c43;clear c43;replace H:=Option.bind_eq_some_iff.mp H;obtain ⟨t504,A440,H⟩:=H;replace H:(some t504)=some r:=H;have A44:=As0.mk A440;clear A440;obtain rfl:=zSi H;go_wp2_with (first|((with_reducible refine y0d (f:=28) rfl ?_);refine y0m (some 64) rfl rfl Tra.func28 (by kernel_rfl) rfl #[.slice A0 l0.length c0,.int .i64 a1] rfl (by (try simp only [List.map_toArray,List.map_cons,List.map_nil]);first|done|rfl|(simp only [List.length_drop,List.length_take];rfl)) ?_;(with_reducible refine (mobs_Around.calls kj28 (fun k_=>k_<w.heap.size) _ _ l0 a1 t495 t498 _ ?side1 A39.out).mono ?_);(case side1=>exact Kd.V_mk HC0.out (Kd.F_below (Kd.C_F (Kd.heap_int .i64) HR0.out) (by repeat (with_reducible first|exact HB.out|apply y01|apply y00|apply y02|refine y04 ?_ GE478.out|refine y04 ?_ GE485.out))));rintro e w45 ⟨v496,rfl,ho0,hb⟩;refine ⟨_,rfl,?_⟩;have n0_:=As0.mk (Kd.R_lower (Kd.R_mono (ok':=fun k_=>True) ho0 (fun _ hk_=>trivial)) (y05 (by repeat (with_reducible first|exact HB.out|apply y01|apply y00|apply y02|refine y04 ?_ GE478.out|refine y04 ?_ GE485.out))));have n1_:=As0.mk (y0h (g:=gb478) (o:=.cells #[.int .i64 t472,.int .i64 t473,.int .i64 t474,.int .i64 t475] 31 (0,0)) (by (with_reducible repeat (first|refine y03 ?_ _|refine blk_drew ?_|refine blk_alloc ?_ _));exact BK478.out) hb);have n2_:=As0.mk (y0h (g:=gb485) (o:=.cells #[.int .i64 t479,.int .i64 t480,.int .i64 t481,.int .i64 t482] 31 (0,0)) (by (with_reducible repeat (first|refine y03 ?_ _|refine blk_drew ?_|refine blk_alloc ?_ _));exact BK485.out) hb);have n3_:=As0.mk (y07 (by repeat (with_reducible first|exact HB.out|apply y01|apply y00|apply y02|refine y04 ?_ GE478.out|refine y04 ?_ GE485.out)) hb);clear BK478;clear BK485;clear HB;have HO497:=n0_;have BK478:=n1_;have BK485:=n2_;have HB:=n3_;clear n0_ n1_ n2_ n3_;(try clear hb);(try clear hb2);(try clear hk);(try clear hi);(try clear ho0))|((with_reducible refine y0d (f:=29) rfl ?_);refine y0m (some 70) rfl rfl Tra.func29 (by kernel_rfl) rfl #[.slice A0 l0.length c0,.int .i64 a1] rfl (by (try simp only [List.map_toArray,List.map_cons,List.map_nil]);first|done|rfl|(simp only [List.length_drop,List.length_take];rfl)) ?_;(with_reducible refine (r6_Around.calls kj28 _ _ l0 a1 t499 t500 _ ?side1 ?side2 A40.out).mono ?_);(case side1=>repeat (first|exact (Kd.C_below HR0.out HB.out)|(with_reducible refine Kd.C_alloc ?_ _)|(with_reducible refine Kd.C_drewN ?_ _)|(with_reducible refine Kd.C_drew ?_)));(case side2=>exact HC0.out);rintro e w46 ⟨v501,rfl,ho0,hb⟩;refine ⟨_,rfl,?_⟩;have n0_:=As0.mk (Kd.R_elder' (by (with_reducible repeat (first|apply Kd.R_alloc|apply Kd.R_drewN|apply Kd.R_drew));exact HO497.out) (Kd.R_base ho0) hb);have n1_:=As0.mk (Kd.R_lower (Kd.R_new' ho0 (Kd.R_lt (by (with_reducible repeat (first|apply Kd.R_alloc|apply Kd.R_drewN|apply Kd.R_drew));exact HO497.out))) (y05 (by repeat (with_reducible first|exact HB.out|apply y01|apply y00|apply y02|refine y04 ?_ GE478.out|refine y04 ?_ GE485.out))));have n2_:=As0.mk (y0h (g:=gb478) (o:=.cells #[.int .i64 t472,.int .i64 t473,.int .i64 t474,.int .i64 t475] 31 (0,0)) (by (with_reducible repeat (first|refine y03 ?_ _|refine blk_drew ?_|refine blk_alloc ?_ _));exact BK478.out) hb);have n3_:=As0.mk (y0h (g:=gb485) (o:=.cells #[.int .i64 t479,.int .i64 t480,.int .i64 t481,.int .i64 t482] 31 (0,0)) (by (with_reducible repeat (first|refine y03 ?_ _|refine blk_drew ?_|refine blk_alloc ?_ _));exact BK485.out) hb);have n4_:=As0.mk (y07 (by repeat (with_reducible first|exact HB.out|apply y01|apply y00|apply y02|refine y04 ?_ GE478.out|refine y04 ?_ GE485.out)) hb);clear HO497;clear BK478;clear BK485;clear HB;have HO497:=n0_;have HO502:=n1_;have BK478:=n2_;have BK485:=n3_;have HB:=n4_;clear n0_ n1_ n2_ n3_ n4_;(try clear hb);(try clear hb2);(try clear hk);(try clear hi);(try clear ho0);obtain ⟨Ao47,co47,eo47⟩:=Kd.R_slice HO497.out;subst eo47;obtain ⟨Ao48,co48,eo48⟩:=Kd.R_slice HO502.out;subst eo48)|((with_reducible refine y0d (f:=27) rfl ?_);refine y0m (some 75) rfl rfl Tra.func27 (by kernel_rfl) rfl #[.slice Ao47 t495.length co47,.slice Ao48 t499.length co48] rfl (by (try simp only [List.map_toArray,List.map_cons,List.map_nil]);first|done|rfl|(simp only [List.length_drop,List.length_take];rfl)) ?_;(with_reducible refine (w6_same.calls kj28 _ _ t495 _ _ t499 true _ ?side1 ?side2 ?side3 ?side4 A41.out).mono ?_);(case side1=>repeat (first|exact (Kd.R_reads' HO497.out).2.2|(with_reducible refine Kd.C_alloc ?_ _)|(with_reducible refine Kd.C_drewN ?_ _)|(with_reducible refine Kd.C_drew ?_)));(case side2=>exact (Kd.R_reads' HO497.out).2.1);(case side3=>repeat (first|exact (Kd.R_reads' HO502.out).2.2|(with_reducible refine Kd.C_alloc ?_ _)|(with_reducible refine Kd.C_drewN ?_ _)|(with_reducible refine Kd.C_drew ?_)));(case side4=>exact (Kd.R_reads' HO502.out).2.1);rintro e w' ⟨rfl,⟨nd,rfl⟩⟩;refine ⟨_,rfl,?_⟩)|(go_at_call 20;(with_reducible refine (w6_alive.calls  t504 _ A44.out).mono ?_);rintro e w49 ⟨rfl,hb⟩;have n0_:=As0.mk (Kd.R_below (by (with_reducible repeat (first|apply Kd.R_alloc|apply Kd.R_drewN|apply Kd.R_drew));exact HO497.out) hb);have n1_:=As0.mk (Kd.R_below (by (with_reducible repeat (first|apply Kd.R_alloc|apply Kd.R_drewN|apply Kd.R_drew));exact HO502.out) hb);have n2_:=As0.mk (y0h (g:=gb478) (o:=.cells #[.int .i64 t472,.int .i64 t473,.int .i64 t474,.int .i64 t475] 31 (0,0)) (by (with_reducible repeat (first|refine y03 ?_ _|refine blk_drew ?_|refine blk_alloc ?_ _));exact BK478.out) hb);have n3_:=As0.mk (y0h (g:=gb485) (o:=.cells #[.int .i64 t479,.int .i64 t480,.int .i64 t481,.int .i64 t482] 31 (0,0)) (by (with_reducible repeat (first|refine y03 ?_ _|refine blk_drew ?_|refine blk_alloc ?_ _));exact BK485.out) hb);have n4_:=As0.mk (y07 (by repeat (with_reducible first|exact HB.out|apply y01|apply y00|apply y02|refine y04 ?_ GE478.out|refine y04 ?_ GE485.out)) hb);clear HO497;clear HO502;clear BK478;clear BK485;clear HB;have HO497:=n0_;have HO502:=n1_;have BK478:=n2_;have BK485:=n3_;have HB:=n4_;clear n0_ n1_ n2_ n3_ n4_;(try clear hb);(try clear hb2);(try clear hk);(try clear hi)))
          go_ret
          exact ⟨by first|rfl|(simp [y0a,y09]<;>rfl)|(simp [*,y0a,y09]<;>rfl),by repeat (with_reducible first|exact HB.out|apply y01|apply y00|apply y02|refine y04 ?_ GE478.out|refine y04 ?_ GE485.out)⟩
         ·rw [if_neg c43] at H
          have c43b0:(t498 == t500)=false:=beq_eq_false_iff_ne.mpr c43;have c43b1:(t498 != t500)=true:=bne_iff_ne.mpr c43;obtain rfl:=zSi H;go_wp2_with (first|((with_reducible refine y0d (f:=28) rfl ?_);refine y0m (some 64) rfl rfl Tra.func28 (by kernel_rfl) rfl #[.slice A0 l0.length c0,.int .i64 a1] rfl (by (try simp only [List.map_toArray,List.map_cons,List.map_nil]);first|done|rfl|(simp only [List.length_drop,List.length_take];rfl)) ?_;(with_reducible refine (mobs_Around.calls kj28 (fun k_=>k_<w.heap.size) _ _ l0 a1 t495 t498 _ ?side1 A39.out).mono ?_);(case side1=>exact Kd.V_mk HC0.out (Kd.F_below (Kd.C_F (Kd.heap_int .i64) HR0.out) (by repeat (with_reducible first|exact HB.out|apply y01|apply y00|apply y02|refine y04 ?_ GE478.out|refine y04 ?_ GE485.out))));rintro e w50 ⟨v496,rfl,ho0,hb⟩;refine ⟨_,rfl,?_⟩;have n0_:=As0.mk (Kd.R_lower (Kd.R_mono (ok':=fun k_=>True) ho0 (fun _ hk_=>trivial)) (y05 (by repeat (with_reducible first|exact HB.out|apply y01|apply y00|apply y02|refine y04 ?_ GE478.out|refine y04 ?_ GE485.out))));have n1_:=As0.mk (y0h (g:=gb478) (o:=.cells #[.int .i64 t472,.int .i64 t473,.int .i64 t474,.int .i64 t475] 31 (0,0)) (by (with_reducible repeat (first|refine y03 ?_ _|refine blk_drew ?_|refine blk_alloc ?_ _));exact BK478.out) hb);have n2_:=As0.mk (y0h (g:=gb485) (o:=.cells #[.int .i64 t479,.int .i64 t480,.int .i64 t481,.int .i64 t482] 31 (0,0)) (by (with_reducible repeat (first|refine y03 ?_ _|refine blk_drew ?_|refine blk_alloc ?_ _));exact BK485.out) hb);have n3_:=As0.mk (y07 (by repeat (with_reducible first|exact HB.out|apply y01|apply y00|apply y02|refine y04 ?_ GE478.out|refine y04 ?_ GE485.out)) hb);clear BK478;clear BK485;clear HB;have HO497:=n0_;have BK478:=n1_;have BK485:=n2_;have HB:=n3_;clear n0_ n1_ n2_ n3_;(try clear hb);(try clear hb2);(try clear hk);(try clear hi);(try clear ho0))|((with_reducible refine y0d (f:=29) rfl ?_);refine y0m (some 70) rfl rfl Tra.func29 (by kernel_rfl) rfl #[.slice A0 l0.length c0,.int .i64 a1] rfl (by (try simp only [List.map_toArray,List.map_cons,List.map_nil]);first|done|rfl|(simp only [List.length_drop,List.length_take];rfl)) ?_;(with_reducible refine (r6_Around.calls kj28 _ _ l0 a1 t499 t500 _ ?side1 ?side2 A40.out).mono ?_);(case side1=>repeat (first|exact (Kd.C_below HR0.out HB.out)|(with_reducible refine Kd.C_alloc ?_ _)|(with_reducible refine Kd.C_drewN ?_ _)|(with_reducible refine Kd.C_drew ?_)));(case side2=>exact HC0.out);rintro e w51 ⟨v501,rfl,ho0,hb⟩;refine ⟨_,rfl,?_⟩;have n0_:=As0.mk (Kd.R_elder' (by (with_reducible repeat (first|apply Kd.R_alloc|apply Kd.R_drewN|apply Kd.R_drew));exact HO497.out) (Kd.R_base ho0) hb);have n1_:=As0.mk (Kd.R_lower (Kd.R_new' ho0 (Kd.R_lt (by (with_reducible repeat (first|apply Kd.R_alloc|apply Kd.R_drewN|apply Kd.R_drew));exact HO497.out))) (y05 (by repeat (with_reducible first|exact HB.out|apply y01|apply y00|apply y02|refine y04 ?_ GE478.out|refine y04 ?_ GE485.out))));have n2_:=As0.mk (y0h (g:=gb478) (o:=.cells #[.int .i64 t472,.int .i64 t473,.int .i64 t474,.int .i64 t475] 31 (0,0)) (by (with_reducible repeat (first|refine y03 ?_ _|refine blk_drew ?_|refine blk_alloc ?_ _));exact BK478.out) hb);have n3_:=As0.mk (y0h (g:=gb485) (o:=.cells #[.int .i64 t479,.int .i64 t480,.int .i64 t481,.int .i64 t482] 31 (0,0)) (by (with_reducible repeat (first|refine y03 ?_ _|refine blk_drew ?_|refine blk_alloc ?_ _));exact BK485.out) hb);have n4_:=As0.mk (y07 (by repeat (with_reducible first|exact HB.out|apply y01|apply y00|apply y02|refine y04 ?_ GE478.out|refine y04 ?_ GE485.out)) hb);clear HO497;clear BK478;clear BK485;clear HB;have HO497:=n0_;have HO502:=n1_;have BK478:=n2_;have BK485:=n3_;have HB:=n4_;clear n0_ n1_ n2_ n3_ n4_;(try clear hb);(try clear hb2);(try clear hk);(try clear hi);(try clear ho0);obtain ⟨Ao52,co52,eo52⟩:=Kd.R_slice HO497.out;subst eo52;obtain ⟨Ao53,co53,eo53⟩:=Kd.R_slice HO502.out;subst eo53)|((with_reducible refine y0d (f:=27) rfl ?_);refine y0m (some 75) rfl rfl Tra.func27 (by kernel_rfl) rfl #[.slice Ao52 t495.length co52,.slice Ao53 t499.length co53] rfl (by (try simp only [List.map_toArray,List.map_cons,List.map_nil]);first|done|rfl|(simp only [List.length_drop,List.length_take];rfl)) ?_;(with_reducible refine (w6_same.calls kj28 _ _ t495 _ _ t499 true _ ?side1 ?side2 ?side3 ?side4 A41.out).mono ?_);(case side1=>repeat (first|exact (Kd.R_reads' HO497.out).2.2|(with_reducible refine Kd.C_alloc ?_ _)|(with_reducible refine Kd.C_drewN ?_ _)|(with_reducible refine Kd.C_drew ?_)));(case side2=>exact (Kd.R_reads' HO497.out).2.1);(case side3=>repeat (first|exact (Kd.R_reads' HO502.out).2.2|(with_reducible refine Kd.C_alloc ?_ _)|(with_reducible refine Kd.C_drewN ?_ _)|(with_reducible refine Kd.C_drew ?_)));(case side4=>exact (Kd.R_reads' HO502.out).2.1);rintro e w' ⟨rfl,⟨nd,rfl⟩⟩;refine ⟨_,rfl,?_⟩))
          go_ret
          exact ⟨by first|rfl|(simp [y0a,y09]<;>rfl)|(simp [*,y0a,y09]<;>rfl),by repeat (with_reducible first|exact HB.out|apply y01|apply y00|apply y02|refine y04 ?_ GE478.out|refine y04 ?_ GE485.out)⟩
        ·replace c42:=Bool.eq_false_iff.mpr c42
         subst c42;have H1:(some false)=some r:=by rw [if_neg (show ¬ (false=true) by decide)] at H;exact H
         clear H;have H:=H1;clear H1;obtain rfl:=zSi H;go_wp2_with (first|((with_reducible refine y0d (f:=28) rfl ?_);refine y0m (some 64) rfl rfl Tra.func28 (by kernel_rfl) rfl #[.slice A0 l0.length c0,.int .i64 a1] rfl (by (try simp only [List.map_toArray,List.map_cons,List.map_nil]);first|done|rfl|(simp only [List.length_drop,List.length_take];rfl)) ?_;(with_reducible refine (mobs_Around.calls kj28 (fun k_=>k_<w.heap.size) _ _ l0 a1 t495 t498 _ ?side1 A39.out).mono ?_);(case side1=>exact Kd.V_mk HC0.out (Kd.F_below (Kd.C_F (Kd.heap_int .i64) HR0.out) (by repeat (with_reducible first|exact HB.out|apply y01|apply y00|apply y02|refine y04 ?_ GE478.out|refine y04 ?_ GE485.out))));rintro e w54 ⟨v496,rfl,ho0,hb⟩;refine ⟨_,rfl,?_⟩;have n0_:=As0.mk (Kd.R_lower (Kd.R_mono (ok':=fun k_=>True) ho0 (fun _ hk_=>trivial)) (y05 (by repeat (with_reducible first|exact HB.out|apply y01|apply y00|apply y02|refine y04 ?_ GE478.out|refine y04 ?_ GE485.out))));have n1_:=As0.mk (y0h (g:=gb478) (o:=.cells #[.int .i64 t472,.int .i64 t473,.int .i64 t474,.int .i64 t475] 31 (0,0)) (by (with_reducible repeat (first|refine y03 ?_ _|refine blk_drew ?_|refine blk_alloc ?_ _));exact BK478.out) hb);have n2_:=As0.mk (y0h (g:=gb485) (o:=.cells #[.int .i64 t479,.int .i64 t480,.int .i64 t481,.int .i64 t482] 31 (0,0)) (by (with_reducible repeat (first|refine y03 ?_ _|refine blk_drew ?_|refine blk_alloc ?_ _));exact BK485.out) hb);have n3_:=As0.mk (y07 (by repeat (with_reducible first|exact HB.out|apply y01|apply y00|apply y02|refine y04 ?_ GE478.out|refine y04 ?_ GE485.out)) hb);clear BK478;clear BK485;clear HB;have HO497:=n0_;have BK478:=n1_;have BK485:=n2_;have HB:=n3_;clear n0_ n1_ n2_ n3_;(try clear hb);(try clear hb2);(try clear hk);(try clear hi);(try clear ho0))|((with_reducible refine y0d (f:=29) rfl ?_);refine y0m (some 70) rfl rfl Tra.func29 (by kernel_rfl) rfl #[.slice A0 l0.length c0,.int .i64 a1] rfl (by (try simp only [List.map_toArray,List.map_cons,List.map_nil]);first|done|rfl|(simp only [List.length_drop,List.length_take];rfl)) ?_;(with_reducible refine (r6_Around.calls kj28 _ _ l0 a1 t499 t500 _ ?side1 ?side2 A40.out).mono ?_);(case side1=>repeat (first|exact (Kd.C_below HR0.out HB.out)|(with_reducible refine Kd.C_alloc ?_ _)|(with_reducible refine Kd.C_drewN ?_ _)|(with_reducible refine Kd.C_drew ?_)));(case side2=>exact HC0.out);rintro e w55 ⟨v501,rfl,ho0,hb⟩;refine ⟨_,rfl,?_⟩;have n0_:=As0.mk (Kd.R_elder' (by (with_reducible repeat (first|apply Kd.R_alloc|apply Kd.R_drewN|apply Kd.R_drew));exact HO497.out) (Kd.R_base ho0) hb);have n1_:=As0.mk (Kd.R_lower (Kd.R_new' ho0 (Kd.R_lt (by (with_reducible repeat (first|apply Kd.R_alloc|apply Kd.R_drewN|apply Kd.R_drew));exact HO497.out))) (y05 (by repeat (with_reducible first|exact HB.out|apply y01|apply y00|apply y02|refine y04 ?_ GE478.out|refine y04 ?_ GE485.out))));have n2_:=As0.mk (y0h (g:=gb478) (o:=.cells #[.int .i64 t472,.int .i64 t473,.int .i64 t474,.int .i64 t475] 31 (0,0)) (by (with_reducible repeat (first|refine y03 ?_ _|refine blk_drew ?_|refine blk_alloc ?_ _));exact BK478.out) hb);have n3_:=As0.mk (y0h (g:=gb485) (o:=.cells #[.int .i64 t479,.int .i64 t480,.int .i64 t481,.int .i64 t482] 31 (0,0)) (by (with_reducible repeat (first|refine y03 ?_ _|refine blk_drew ?_|refine blk_alloc ?_ _));exact BK485.out) hb);have n4_:=As0.mk (y07 (by repeat (with_reducible first|exact HB.out|apply y01|apply y00|apply y02|refine y04 ?_ GE478.out|refine y04 ?_ GE485.out)) hb);clear HO497;clear BK478;clear BK485;clear HB;have HO497:=n0_;have HO502:=n1_;have BK478:=n2_;have BK485:=n3_;have HB:=n4_;clear n0_ n1_ n2_ n3_ n4_;(try clear hb);(try clear hb2);(try clear hk);(try clear hi);(try clear ho0);obtain ⟨Ao56,co56,eo56⟩:=Kd.R_slice HO497.out;subst eo56;obtain ⟨Ao57,co57,eo57⟩:=Kd.R_slice HO502.out;subst eo57)|((with_reducible refine y0d (f:=27) rfl ?_);refine y0m (some 75) rfl rfl Tra.func27 (by kernel_rfl) rfl #[.slice Ao56 t495.length co56,.slice Ao57 t499.length co57] rfl (by (try simp only [List.map_toArray,List.map_cons,List.map_nil]);first|done|rfl|(simp only [List.length_drop,List.length_take];rfl)) ?_;(with_reducible refine (w6_same.calls kj28 _ _ t495 _ _ t499 false _ ?side1 ?side2 ?side3 ?side4 A41.out).mono ?_);(case side1=>repeat (first|exact (Kd.R_reads' HO497.out).2.2|(with_reducible refine Kd.C_alloc ?_ _)|(with_reducible refine Kd.C_drewN ?_ _)|(with_reducible refine Kd.C_drew ?_)));(case side2=>exact (Kd.R_reads' HO497.out).2.1);(case side3=>repeat (first|exact (Kd.R_reads' HO502.out).2.2|(with_reducible refine Kd.C_alloc ?_ _)|(with_reducible refine Kd.C_drewN ?_ _)|(with_reducible refine Kd.C_drew ?_)));(case side4=>exact (Kd.R_reads' HO502.out).2.1);rintro e w' ⟨rfl,⟨nd,rfl⟩⟩;refine ⟨_,rfl,?_⟩))
         go_ret
         exact ⟨by first|rfl|(simp [y0a,y09]<;>rfl)|(simp [*,y0a,y09]<;>rfl),by repeat (with_reducible first|exact HB.out|apply y01|apply y00|apply y02|refine y04 ?_ GE478.out|refine y04 ?_ GE485.out)⟩
 ·replace c4:=Bool.eq_false_iff.mpr c4
  subst c4;have H1:((w6_alive.f).bind fun t471=>(some t471))=some r:=by rw [if_neg (show ¬ (false=true) by decide)] at H;exact H
  clear H;have H:=H1;clear H1;replace H:=Option.bind_eq_some_iff.mp H;obtain ⟨t471,A580,H⟩:=H;replace H:(some t471)=some r:=H;have A58:=As0.mk A580;clear A580;obtain rfl:=zSi H;go_enter Tra.func5,Tra.ntmps5
  go_wp2_with (first|((with_reducible refine y0d (f:=22) rfl ?_);refine y0m (some 14) rfl rfl Tra.func22 (by kernel_rfl) rfl #[.slice A0 l0.length c0,.slice none 0 0] rfl (by (try simp only [List.map_toArray,List.map_cons,List.map_nil]);first|done|rfl|(simp only [List.length_drop,List.length_take];rfl)) ?_;(refine (w6_few.calls _ _ l0 _ _ ([]:List Int) false _ ?side1 ?side2 ?side3 ?side4 A3.out).mono ?_);(case side1=>repeat (first|exact HR0.out|(with_reducible refine Kd.C_alloc ?_ _)|(with_reducible refine Kd.C_drewN ?_ _)|(with_reducible refine Kd.C_drew ?_)));(case side2=>exact HC0.out);(case side3=>exact Kd.C_nil _ _);(case side4=>exact zLe _);rintro e w' ⟨rfl,⟨nd,rfl⟩⟩;refine ⟨_,rfl,?_⟩)|((with_reducible refine y0d (f:=20) rfl ?_);refine y0m (some 16) rfl rfl Tra.func20 (by kernel_rfl) rfl #[] rfl (by (try simp only [List.map_toArray,List.map_cons,List.map_nil]);first|done|rfl|(simp only [List.length_drop,List.length_take];rfl)) ?_;(with_reducible refine (w6_alive.calls  t471 _ A58.out).mono ?_);rintro e w59 ⟨rfl,hb⟩;refine ⟨_,rfl,?_⟩;have n0_:=As0.mk (y07 (by repeat (with_reducible first|exact HB.out|apply y01|apply y00|apply y02)) hb);clear HB;have HB:=n0_;clear n0_;(try clear hb);(try clear hb2);(try clear hk);(try clear hi)))
  go_ret
  exact ⟨by first|rfl|(simp [y0a,y09]<;>rfl)|(simp [*,y0a,y09]<;>rfl),by repeat (with_reducible first|exact HB.out|apply y01|apply y00|apply y02)⟩
def w6_MobsCrosses.Pure:Prop:=∀ (l0:List Int) (a1:Int),l0.length≤maxLen->l0.length * 8≤140737488351232->(∀ x ∈ l0,(Lit.int .i64 x).wf=true)->(Lit.int .i64 a1).wf=true->∃ k,w6_MobsCrosses.f k l0 a1=some true
theorem w6_MobsCrosses.walk (P:w6_MobsCrosses.Pure) (a0:Option Addr) (len0 cap0:Nat) (z0:List Int) (a1:Int) (w:World) (w0:(a0=none∧len0=0∧cap0=0∧z0=[])∨∃ x,a0=some x∧len0≤cap0∧cap0≤maxLen∧z0.length=cap0∧(∀ i,i<z0.length->w.cell? (x.add i)=some (.int .i64 (z0.getD i 0)))∧∀ n ∈ z0,(Lit.int .i64 n).wf=true) (y0:len0 * 8≤140737488351232) (w1:(Lit.int .i64 a1).wf=true) :
  Calls Tra.prog 5 #[.slice a0 len0 cap0,.int .i64 a1] w fun e w'=>e=.returned (.bool true)∧Below w.heap.size w w':=by
 obtain ⟨l0,rfl,hr0,hm0,hw0,hc0⟩:=ReadsInt.ofRowC w0;obtain ⟨k,h⟩:=P l0 a1 hm0 y0 hw0 w1;refine (w6_MobsCrosses.calls k _ _ l0 a1 true w (Kd.C_of_reads (d:=(0:Int)) (h1:=fun _=>rfl) hr0) hc0 h).mono ?_
 rintro e w' ⟨rfl,hd⟩
 exact ⟨rfl,hd⟩
end Go.Proofs.Ytdhgeondbnpeoaa.P
namespace Go.Proofs.Ytdhgeondbnpeoaa.Pl
open Go.RowKit Go.Proofs.Ytdhgeondbnpeoaa.P Go.Proofs.Yw.Wd Go.Proofs.Yw.La
section
def rgs:Int->List Int->Bool
 |_,[]=>true
 |m,x :: l=>decide (0≤x) && (decide (x≤m) && rgs (if x=m then m+1 else m) l)
def isP (l:List Int):Bool:=decide (l.length≤12) && rgs 0 l
theorem w64 {x:Int} (h0:-1000000000≤x) (h1:x≤1000000000):wrap64 x=x:=by unfold wrap64;omega
theorem y8u {l:List Int} {i:Nat} (h:i<l.length):rd l (i:Int)=l[i]:=by simp [rd,List.getD_eq_getElem?_getD,List.getElem?_eq_getElem h]
theorem ref_l (l:List Int) (hn:l.length≤12):∀ (j i k:Nat) (m:Int),i+j=l.length->2 * j+2≤k->0≤m->m≤i->r6_IsParting.l0 k l m (i:Int)=some (rgs m (l.drop i))
 |0,i,k+1,m,hi,hk,h0,h1=>by
  unfold r6_IsParting.l0;rw [if_neg (by omega),List.drop_of_length_le (by omega)];rfl
 |j+1,i,k+2,m,hi,hk,h0,h1=>by
  have hlt:i<l.length:=by omega
  unfold r6_IsParting.l0;rw [if_pos (by omega),if_pos (by omega),y8u hlt,List.drop_eq_getElem_cons hlt];unfold rgs r6_IsParting.j1
  by_cases hx:l[i]<0
  ·rw [if_pos hx,if_pos rfl,zDf (by omega)]
   rfl
  ·rw [if_neg hx,zDt (show 0≤l[i] by omega)]
   by_cases hm:l[i] > m
   ·rw [zDt hm,if_pos rfl,zDf (by omega)]
    rfl
   ·rw [zDf hm,if_neg (by decide),if_pos (by omega),if_pos (by omega),y8u hlt,zDt (show l[i]≤m by omega)]
    simp only [Bool.true_and]
    by_cases he:l[i]=m
    ·rw [if_pos he,if_pos he,w64 (by omega) (by omega),w64 (by omega) (by omega)]
     exact ref_l l hn j (i+1) k (m+1) (by omega) (by omega) (by omega) (by omega)
    ·rw [if_neg he,if_neg he,w64 (x:=(i:Int)+1) (by omega) (by omega)]
     exact ref_l l hn j (i+1) k m (by omega) (by omega) (by omega) (by omega)
theorem ref_isP (l:List Int) {k:Nat} (hk:30≤k):r6_IsParting.f k l=some (isP l):=by
 unfold r6_IsParting.f isP
 by_cases h:l.length≤12
 ·have h1:r6_IsParting.l0 k l 0 0=_:=ref_l l h l.length 0 k 0 (by omega) (by omega) (by omega) (by omega)
  rw [if_neg (by omega),zDt h,h1];rfl
 ·rw [if_pos (by omega),zDf h]
  rfl
theorem ydg (l:List Int) (hn:l.length≤12):∀ (j i k:Nat) (m:Int),i+j=l.length->j+1≤k->0≤m->m≤i->mobs_IsParting.l0 k m l (l.length:Int) (i:Int)=some (rgs m (l.drop i))
 |0,i,k+1,m,hi,hk,h0,h1=>by
  unfold mobs_IsParting.l0;rw [if_neg (by omega),List.drop_of_length_le (by omega)];rfl
 |j+1,i,k+1,m,hi,hk,h0,h1=>by
  have hlt:i<l.length:=by omega
  unfold mobs_IsParting.l0;rw [if_pos (by omega),if_pos (by omega),if_pos (by omega),y8u hlt,List.drop_eq_getElem_cons hlt];unfold rgs
  by_cases hx:l[i]<0
  ·rw [if_pos hx,zDf (by omega)]
   rfl
  ·rw [if_neg hx,zDt (show 0≤l[i] by omega)]
   by_cases hm:l[i] > m
   ·rw [if_pos hm,zDf (by omega)]
    rfl
   ·rw [if_neg hm,zDt (show l[i]≤m by omega),w64 (x:=l[i]+1) (by omega) (by omega),w64 (x:=(i:Int)+1) (by omega) (by omega)]
    simp only [Bool.true_and];have e:mx m (l[i]+1)=if l[i]=m then m+1 else m:=by
     unfold mx;split<;>split<;>omega
    rw [e];split
    ·exact ydg l hn j (i+1) k (m+1) (by omega) (by omega) (by omega) (by omega)
    ·exact ydg l hn j (i+1) k m (by omega) (by omega) (by omega) (by omega)
theorem yix (l:List Int) {k:Nat} (hk:20≤k):mobs_IsParting.f k l=some (isP l):=by
 unfold mobs_IsParting.f isP
 by_cases h:l.length≤12
 ·have h1:mobs_IsParting.l0 k 0 l (l.length:Int) 0=_:=ydg l h l.length 0 k 0 (by omega) (by omega) (by omega) (by omega)
  rw [if_neg (by omega),zDt h,h1];rfl
 ·rw [if_pos (by omega),zDf h]
  rfl
theorem y2l {l:List Int} (h:isP l=true):l.length≤12:=by
 simp only [isP,Bool.and_eq_true,decide_eq_true_eq] at h;exact h.1
theorem y1e (l:List Int) (i:Nat):rd l (i:Int)=l.getD i 0:=rfl
theorem same_l (a b:List Int) (hl:a.length=b.length) (hn:a.length≤40):∀ (d i k:Nat),i+d=a.length->d+1≤k->w6_same.l0 k a b (i:Int)=some (decide (a.drop i=b.drop i))
 |0,i,k+1,hi,hk=>by
  unfold w6_same.l0;rw [if_neg (by omega),List.drop_of_length_le (by omega),List.drop_of_length_le (by omega),zDt rfl]
 |d+1,i,k+1,hi,hk=>by
  have h1:i<a.length:=by omega
  have h2:i<b.length:=by omega
  unfold w6_same.l0;rw [if_pos (by omega),if_pos (by omega),if_pos (by omega),y8u h1,y8u h2,List.drop_eq_getElem_cons h1,List.drop_eq_getElem_cons h2,w64 (x:=(i:Int)+1) (by omega) (by omega)]
  by_cases he:a[i]=b[i]
  ·rw [if_pos he]
   have ih:=same_l a b hl hn d (i+1) k (by omega) (by omega);rw [show ((i+1:Nat):Int)=(i:Int)+1 by omega] at ih;rw [ih]
   congr 1
   rw [Bool.eq_iff_iff,decide_eq_true_iff,decide_eq_true_iff,List.cons.injEq];exact ⟨fun h=>⟨he,h⟩,fun h=>h.2⟩
  ·rw [if_neg he]
   congr 1
   rw [eq_comm,decide_eq_false_iff_not,List.cons.injEq];exact fun h=>he h.1
theorem same_f {a b:List Int} (hn:a.length≤40) {k:Nat} (hk:50≤k):w6_same.f k a b=some (decide (a=b)):=by
 unfold w6_same.f
 by_cases hl:a.length=b.length
 ·rw [if_pos (by omega)]
  have h:=same_l a b hl hn a.length 0 k (by omega) (by omega);simpa using h
 ·rw [if_neg (by omega)]
  congr 1
  rw [eq_comm,decide_eq_false_iff_not];exact fun h=>hl (congrArg _ h)
end
section
def TB (t:List (List Int)) (left m:Nat):Int:=(t.getD left []).getD m 0
def nx (m x:Int):Int:=if x=m then m+1 else m
def st (m:Int) (l:List Int):Int:=l.foldl nx m
theorem nx_bd {m x:Int}:m≤nx m x∧nx m x≤m+1:=by
 unfold nx;split<;>omega
theorem y5w:∀ (l:List Int) (m:Int) (i:Nat),rgs m l=true->0≤m->rgs m (l.take i)=true∧rgs (st m (l.take i)) (l.drop i)=true∧m≤st m (l.take i)∧st m (l.take i)≤m+i
 |l,m,0,h,_=>by simp [st,rgs,h]
 |[],m,i+1,h,_=>by simp [st,rgs];omega
 |x :: l,m,i+1,h,h0=>by
  simp only [rgs,Bool.and_eq_true,decide_eq_true_eq] at h;obtain ⟨h1,h2,h3⟩:=h;have hb:=@nx_bd m x;have h3':rgs (nx m x) l=true:=h3;obtain ⟨a1,a2,a3,a4⟩:=y5w l (nx m x) i h3' (by omega);refine ⟨?_,a2,?_,?_⟩
  ·simp only [List.take_succ_cons,rgs,Bool.and_eq_true,decide_eq_true_eq]
   exact ⟨h1,h2,a1⟩
  ·show m≤st (nx m x) (l.take i)
   omega
  ·show st (nx m x) (l.take i)≤_
   omega
theorem y38 (l:List Int) {k:Nat} (hk:30≤k):mobs_read.f k [l]=some (if l.length≤12 then (if isP l=true then 0 else 2) else 3):=by
 obtain ⟨k,rfl⟩:∃ j,k=j+2:=⟨k - 2,by omega⟩
 have e0:y1k [l] 0=l:=rfl;have w1:wrap64 (0+1)=1:=by rw [w64 (by omega) (by omega)];rfl
 unfold mobs_read.f;simp only [List.length_cons,List.length_nil];unfold mobs_read.l0;rw [if_pos (by decide),if_pos (by decide),if_pos (by simp),e0]
 by_cases hl:l.length≤12
 ·rw [if_neg (by omega),if_pos hl,yix l (by omega)]
  simp only [Option.bind_some]
  by_cases hp:isP l=true
  ·rw [if_pos hp,if_pos hp,w1]
   unfold mobs_read.l0;rw [if_neg (by decide),if_neg (by simp)]
  ·rw [if_neg hp,if_neg hp]
 ·rw [if_pos (by omega),if_neg hl]
theorem y2j (l:List Int) {k:Nat} (hk:30≤k):r6_Parting.f k l=some (if l.length≤12 then (if isP l=true then 0 else 2) else 3):=by
 unfold r6_Parting.f
 by_cases hl:l.length≤12
 ·rw [if_neg (by omega),if_pos hl,ref_isP l (by omega)]
  simp only [Option.bind_some];split<;>rfl
 ·rw [if_pos (by omega),if_neg hl]
end
end Go.Proofs.Ytdhgeondbnpeoaa.Pl
namespace Go.Proofs.Ytdhgeondbnpeoaa.Pl
open Go.RowKit Go.Proofs.Ytdhgeondbnpeoaa.P Go.Proofs.Yw.Wd Go.Proofs.Yw.La Go.Proofs.Ytdhgeondbnpeoaa.Ext
def Ev (p:Nat->Prop):Prop:=∃ k0,∀ k,k0≤k->p k
theorem Ev.and {p q:Nat->Prop} (h:Ev p) (h':Ev q):Ev fun k=>p k∧q k:=by
 obtain ⟨a,ha⟩:=h;obtain ⟨b,hb⟩:=h';exact ⟨a+b,fun k hk=>⟨ha k (by omega),hb k (by omega)⟩⟩
theorem Ev.step {p q:Nat->Prop} (h:Ev p) (hs:∀ k,p k->q (k+1)):Ev q:=by
 obtain ⟨a,ha⟩:=h;refine ⟨a+1,fun k hk=>?_⟩;obtain ⟨j,rfl⟩:∃ j,k=j+1:=⟨k - 1,by omega⟩
 exact hs j (ha j (by omega))
theorem Ev.mono {p q:Nat->Prop} (h:Ev p) (hs:∀ k,p k->q k):Ev q:=by
 obtain ⟨a,ha⟩:=h;exact ⟨a,fun k hk=>hs k (ha k hk)⟩
theorem Ev.all {p:Nat->Prop} (h:∀ k,p k):Ev p:=⟨0,fun k _=>h k⟩
theorem Ev.next {q:Nat->Prop} (h:∀ k,q (k+1)):Ev q:=(Ev.all (p:=fun _=>True) fun _=>trivial).step fun k _=>h k
theorem Ev.ge {p:Nat->Prop} (n:Nat) (h:∀ k,n≤k->p k):Ev p:=⟨n,h⟩
theorem Ev.ex {p:Nat->Prop} (h:Ev p):∃ k,p k:=by
 obtain ⟨a,ha⟩:=h;exact ⟨a,ha a (zLe _)⟩
theorem yat {α:Type} {p:List α->Prop} (h0:p []) (h1:∀ l x,p l->p (l ++ [x])) (l:List α):p l:=by
 have h:∀ r:List α,p r.reverse:=by
  intro r
  induction r with
  |nil=>exact h0
  |cons x r ih =>
   rw [List.reverse_cons];exact h1 _ _ ih
 simpa using h l.reverse
section
variable {α:Type} [DecidableEq α]
def y16 (l:List α):List α:=(y1t l).1
theorem y6c (l:List α) (x:α):y16 (l ++ [x])=met (y16 l) x:=by
 unfold y16;rw [y4r];rfl
theorem y92 (l:List α) (x:α):numL (l ++ [x])=numL l ++ [((met (y16 l) x).idxOf x:Int)]:=by
 unfold y16 numL;rw [y4r];rfl
theorem mem_met {S:List α} {x y:α}:y ∈ met S x ↔ y ∈ S∨y=x:=by
 unfold met;split
 ·rename_i h
  exact ⟨Or.inl,fun h'=>h'.elim id fun e=>e ▸ h⟩
 ·simp
theorem y7y {x:α} (l:List α):x ∈ y16 l ↔ x ∈ l:=by
 refine yat (p:=fun l=>x ∈ y16 l ↔ x ∈ l) (by simp [y16,y1t]) (fun l y ih=>?_) l;rw [y6c,mem_met,ih];simp
theorem met_idx {S:List α} {x y:α} (h:y ∈ S):(met S x).idxOf y=S.idxOf y:=by
 unfold met;split
 ·rfl
 ·rw [List.idxOf_append,if_pos h]
theorem yiu (l:List α):numL l=l.map fun x=>(((y16 l).idxOf x:Nat):Int):=by
 refine yat (p:=fun l=>numL l=l.map fun x=>(((y16 l).idxOf x:Nat):Int)) rfl (fun l y ih=>?_) l;rw [y92,y6c,List.map_append,ih]
 congr 1
 refine List.map_congr_left fun x hx=>?_
 rw [met_idx ((y7y l).2 hx)]
theorem yiv {l:List α} {i:Nat} (h:i<l.length):(numL l).getD i 0=(((y16 l).idxOf l[i]:Nat):Int):=by
 rw [yiu,List.getD_eq_getElem?_getD,List.getElem?_map,List.getElem?_eq_getElem h];rfl
end
theorem y2m {l:List Int} {i:Nat} (h:i<l.length):l.getD i 0=l[i]:=by simp [List.getD_eq_getElem?_getD,List.getElem?_eq_getElem h]
theorem rgs_at {l:List Int} (hr:rgs 0 l=true) {i:Nat} (hi:i<l.length):0≤l.getD i 0∧l.getD i 0≤st 0 (l.take i):=by
 obtain ⟨_,q2,_,_⟩:=y5w l 0 i hr (Int.le_refl _);rw [List.drop_eq_getElem_cons hi] at q2;simp only [rgs,Bool.and_eq_true,decide_eq_true_eq] at q2;rw [y2m hi];exact ⟨q2.1,q2.2.1⟩
theorem num_f {l:List Int} (hn:l.length≤100) (hx:∀ x ∈ l,In64 x):mobs_number_int.f l=some (numL l):=by
 unfold mobs_number_int.f;rw [if_pos ⟨hx,by omega⟩]
end Go.Proofs.Ytdhgeondbnpeoaa.Pl
namespace Go.Proofs.Ytdhgeondbnpeoaa.Pl
open Go.RowKit Go.Proofs.Ytdhgeondbnpeoaa.Ext
def UU (l:List Int) (i k:Nat):Prop:=∀ x y,x<l.length->y<l.length->l.getD x 0=l.getD y 0->i<x->x≤k->i<y∧y≤k
def XX (l:List Int):Prop:=∃ a b c d,a<b∧b<c∧c<d∧d<l.length∧l.getD a 0=l.getD c 0∧l.getD b 0=l.getD d 0∧l.getD a 0≠l.getD b 0
theorem UU.refl (l:List Int) (k:Nat):UU l k k:=fun _ _ _ _ _ h1 h2=>absurd h1 (by omega)
theorem UU.add {l:List Int} {i j k:Nat} (h:UU l i j) (h':UU l j k) (h1:i≤j) (h2:j≤k):UU l i k:=by
 intro x y hx hy e a b
 by_cases hc:x≤j
 ·have:=h x y hx hy e a hc
  omega
 ·have:=h' x y hx hy e (by omega) b
  omega
theorem UU.low {l:List Int} {i j k:Nat} (h:UU l i k) (h':UU l j k) (h1:i≤j) (h2:j≤k) (hk:k<l.length):UU l i j:=by
 intro x y hx hy e a b;have c:=h x y hx hy e a (by omega);refine ⟨c.1,?_⟩
 by_cases hc:y≤j
 ·exact hc
 ·have:=h' y x hy hx e.symm (by omega) c.2
  omega
theorem UU.high {l:List Int} {i j k:Nat} (h:UU l i k) (h':UU l i j) (h1:i≤j) (h2:j≤k):UU l j k:=by
 intro x y hx hy e a b;have c:=h x y hx hy e (by omega) b;refine ⟨?_,c.2⟩
 by_cases hc:j<y
 ·exact hc
 ·have:=h' y x hy hx e.symm c.1 (by omega)
  omega
open Classical in
noncomputable def loR (l:List Int) (k:Nat):Nat->Nat->Nat
 |0,a=>a
 |i+1,a=>loR l k i (if UU l i k then i else a)
noncomputable def lo (l:List Int) (k:Nat):Nat:=loR l k k k
theorem ydl (l:List Int) (k:Nat):∀ (i a:Nat),i≤a->a≤k->UU l a k->(∀ j,i≤j->j<a->¬ UU l j k)->loR l k i a≤k∧UU l (loR l k i a) k∧∀ j,j<loR l k i a->¬ UU l j k
 |0,a,_,h1,h2,h3=>⟨h1,h2,fun j hj=>h3 j (Nat.zero_le _) hj⟩
 |i+1,a,h0,h1,h2,h3=>by
  unfold loR
  by_cases h:UU l i k
  ·rw [if_pos h]
   exact ydl l k i i (zLe _) (by omega) h (fun j _ _=>by omega)
  ·rw [if_neg h]
   refine ydl l k i a (by omega) h1 h2 fun j a1 a2=>?_
   by_cases e:j=i
   ·exact e ▸ h
   ·exact h3 j (by omega) a2
theorem ydk (l:List Int) (k:Nat):lo l k≤k∧UU l (lo l k) k∧∀ j,j<lo l k->¬ UU l j k:=ydl l k k k (zLe _) (zLe _) (UU.refl l k) fun j _ _=>by omega
theorem lo_iff {l:List Int} {i k:Nat} (h:i≤k) (hk:k<l.length):lo l i=lo l k ↔ UU l i k:=by
 obtain ⟨a1,a2,a3⟩:=ydk l i;obtain ⟨b1,b2,b3⟩:=ydk l k;refine ⟨fun e=>?_,fun u=>?_⟩
 ·rw [← e] at b2
  exact b2.high a2 a1 h
 ·have h1:lo l k≤lo l i:=by
   by_cases c:lo l k≤lo l i
   ·exact c
   ·exact absurd (a2.add u a1 h) (b3 _ (by omega))
  have h2:lo l i≤lo l k:=by
   by_cases c:lo l i≤lo l k
   ·exact c
   ·exact absurd (b2.low u (by omega) h hk) (a3 _ (by omega))
  omega
noncomputable def wi (l:List Int):List Int:=(List.range l.length).map fun k=>((lo l k:Nat):Int)
theorem y50 (l:List Int):(wi l).length=l.length:=by simp [wi]
theorem wi_get {l:List Int} {k:Nat} (hk:k<l.length):(wi l).getD k 0=((lo l k:Nat):Int):=by
 unfold wi;rw [List.getD_eq_getElem?_getD,List.getElem?_map,List.getElem?_range hk];rfl
def rot (k:Nat) (l:List Int):List Int:=l.drop k ++ l.take k
theorem y9r (k:Nat) (l:List Int):(rot k l).length=l.length:=by
 simp only [rot,List.length_append,List.length_drop,List.length_take];omega
end Go.Proofs.Ytdhgeondbnpeoaa.Pl
