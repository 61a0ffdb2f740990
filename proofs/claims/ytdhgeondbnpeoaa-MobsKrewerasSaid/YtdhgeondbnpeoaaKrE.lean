/- The theorem of MobsKreweras, proved; part 5 of 6: its texts, merged. -/
import Derived.Test.YtdhgeondbnpeoaaKrD
import Derived.SizedLaws
import Derived.ChangeSlices
set_option linter.unnecessarySimpa false
set_option linter.defProp false
set_option linter.unusedVariables false
set_option linter.unusedSimpArgs false
set_option maxRecDepth 100000
set_option maxHeartbeats 8000000
namespace Go.Proofs.Ytdhgeondbnpeoaa.Ext
open Go.RowKit Go.Proofs.Yw.Wd Go.Proofs.Yw.La Go.Proofs.Yw.Mo
attribute [local go_sem] y13 y11 y1c y1b y0v y0u y12 y10
def y5d (x y:Int) (out:List Int):List Int:=out.map fun z=>if z=x then y else z
def y1p (x y:Int) (out:List Int) (j:Nat):List Int:=y5d x y (out.take j) ++ out.drop j
def y4e (b:List Int) (i k:Nat) (out:List Int):List Int:=if b.getD i 0≠b.getD k 0∨out.getD i 0=out.getD k 0 then out else y5d (out.getD i 0) (out.getD k 0) out
def y4y (b:List Int) (i:Nat):Nat->List Int->List Int
 |0,o=>o
 |k+1,o=>y4e b i k (y4y b i k o)
def y28 (b:List Int):Nat->List Int->List Int
 |0,o=>o
 |i+1,o=>y4y b i i (y28 b i o)
def aboveL (a b:List Int):List Int:=numL (y28 b b.length a)
theorem y3z (x y:Int) (o:List Int):(y5d x y o).length=o.length:=by simp [y5d]
theorem ybh (x y:Int) (o:List Int) (j:Nat):(y1p x y o j).length=o.length:=by simp [y1p,y3z];omega
theorem y97 (b:List Int) (i k:Nat) (o:List Int):(y4e b i k o).length=o.length:=by unfold y4e;split<;>simp [y3z]
theorem y4m (b:List Int) (i:Nat):∀ (k:Nat) (o:List Int),(y4y b i k o).length=o.length
 |0,_=>rfl
 |k+1,o=>(y97 b i k _).trans (y4m b i k o)
theorem y2f (b:List Int):∀ (i:Nat) (o:List Int),(y28 b i o).length=o.length
 |0,_=>rfl
 |i+1,o=>(y4m b i i _).trans (y2f b i o)
theorem y9g (x y:Int) (o:List Int):y1p x y o 0=o:=by simp [y1p,y5d]
theorem ybi (x y:Int) (o:List Int):y1p x y o o.length=y5d x y o:=by simp [y1p]
theorem y8c (x y:Int) {o:List Int} {j:Nat} (h:j<o.length):(y1p x y o j).getD j 0=o.getD j 0:=by
 have h1:(y5d x y (o.take j)).length=j:=by rw [y3z,List.length_take];omega
 unfold y1p;rw [List.getD_eq_getElem?_getD,List.getElem?_append_right (by omega),h1,Nat.sub_self,List.getElem?_drop,List.getD_eq_getElem?_getD,Nat.add_zero]
theorem y5c (x y:Int) {o:List Int} {j:Nat} (h:j<o.length):y1p x y o (j+1)=(y1p x y o j).set j (if o.getD j 0=x then y else o.getD j 0):=by
 have h1:(y5d x y (o.take j)).length=j:=by rw [y3z,List.length_take];omega
 unfold y1p;rw [List.set_append,if_neg (by omega),h1,Nat.sub_self,List.drop_eq_getElem_cons h,List.set_cons_zero,List.take_succ_eq_append_getElem h];rw [List.getD_eq_getElem?_getD,List.getElem?_eq_getElem h];unfold y5d;rw [List.map_append,List.append_assoc];rfl
theorem y9h (x y:Int) {o:List Int} {j:Nat} (h:j<o.length) (hne:o.getD j 0≠x):y1p x y o (j+1)=y1p x y o j:=by
 rw [y5c x y h,if_neg hne,← y8c x y h];have hl:j<(y1p x y o j).length:=by rw [ybh];exact h
 rw [List.getD_eq_getElem?_getD,List.getElem?_eq_getElem hl,Option.getD_some,List.set_getElem_self]
theorem yj1 {b:List Int} {p:Int->Prop}:∀ {i:Nat} {o:List Int},(∀ x ∈ o,p x)->p 0->∀ x ∈ y28 b i o,p x:=by
 have hg:∀ {o:List Int} (i:Nat),(∀ x ∈ o,p x)->p 0->p (o.getD i 0):=by
  intro o i h h0;rw [List.getD_eq_getElem?_getD];cases hi:o[i]? with
  |none=>exact h0
  |some v=>exact h v (List.mem_of_getElem? hi)
 have hs:∀ {i k:Nat} {o:List Int},(∀ x ∈ o,p x)->p 0->∀ x ∈ y4e b i k o,p x:=by
  intro i k o h h0 x hx;unfold y4e at hx;split at hx
  ·exact h x hx
  ·simp only [y5d,List.mem_map] at hx
   obtain ⟨z,hz,rfl⟩:=hx;split
   ·exact hg k h h0
   ·exact h z hz
 have hi:∀ {i:Nat} (k:Nat) {o:List Int},(∀ x ∈ o,p x)->p 0->∀ x ∈ y4y b i k o,p x:=by
  intro i k
  induction k with
  |zero=>intro o h _;exact h
  |succ k ih=>intro o h h0;exact hs (ih h h0) h0
 intro i
 induction i with
 |zero=>intro o h _;exact h
 |succ i ih=>intro o h h0;exact hi i (ih h h0) h0
theorem above_all (A:Option Addr) (c:Nat) (la:List Int) (B:Option Addr) (cb:Nat) (lb:List Int) (w:World) (hra:Kd.C (Kd.int .i64) w A la.length la) (hrb:Kd.C (Kd.int .i64) w B lb.length lb) (hab:la.length=lb.length) (hok:∀ x ∈ la,In64 x) (hL:la.length<17592186044416) :
  Calls Tra.prog 65 #[.slice A la.length c,.slice B lb.length cb] w fun e w'=>∃ v,e=.returned v∧OwnI w' w.heap.size v (aboveL la lb)∧Below w.heap.size w w':=by
 have HRB:=As0.mk hrb;have HL:=As0.mk hL;have HAB:=As0.mk hab;have HOK:=As0.mk (yj1 (b:=lb) (i:=lb.length) hok (by unfold In64;omega));have HA:=As0.mk (clone_calls A c la w hra hL);clear hra hrb hL hab hok;go_enter Tra.func65,Tra.ntmps65
 go_wp2_with fail
 refine HA.out.mono ?_
 rintro e w1 ⟨v5,rfl,hR5,hB1⟩
 have HR1:=As0.mk hR5;have HB1:=As0.mk hB1;clear hR5 hB1 HA;go_wp2_with fail
 go_loopw [16] (fun v16 W=>∃ i:Nat,v16=.int .i64 i∧As0 (i≤lb.length)∧As0 (Kd.R (Kd.int .i64) 3 W w.heap.size (fun _=>True) v5 (y28 lb i la))∧As0 (Below w.heap.size w W)) (fun v16 _=>(lb.length - intOf v16).toNat)
 case atStart=>exact ⟨0,rfl,⟨Nat.zero_le _⟩,HR1,HB1⟩
 case round =>
  obtain ⟨i,rfl,hi,hR,hB⟩:=hrel;have hi':=hi.out;have hab:=HAB.out;have hLo:lb.length<17592186044416:=by have:=HL.out;omega
  by_cases hlt:i<lb.length
  ·obtain ⟨g,cap,hv,hbg,hgl,_⟩:=Kd.R_form hR.out (by rw [y2f];omega)
   rw [y2f,hab] at hv;subst hv;have HLEN:=As0.mk (y2f lb i la);have HI:=As0.mk hlt;clear hab;go_wp2_with fail
   go_loopw [20] (fun v20 W=>∃ k:Nat,v20=.int .i64 k∧As0 (k≤i)∧As0 (Kd.R (Kd.int .i64) 3 W w.heap.size (fun _=>True) (.slice (some ⟨g,0,none⟩) lb.length cap) (y4y lb i k (y28 lb i la)))∧As0 (Below w.heap.size w W)) (fun v20 _=>(i - intOf v20).toNat)
   case atStart=>exact ⟨0,rfl,⟨Nat.zero_le _⟩,hR,hB⟩
   case round =>
    clear hR hB;obtain ⟨k,rfl,hk,hR,hB⟩:=hrel;have hk':=hk.out
    by_cases hki:k<i
    ·have hkl:k<lb.length:=by omega
     have hln:=y4m lb i k (y28 lb i la);have hln2:=HLEN.out;have hab:=HAB.out;obtain ⟨o,ho⟩:∃ o,o=y4y lb i k (y28 lb i la):=⟨_,rfl⟩
     rw [← ho] at hR hln;have HOE:=As0.mk ho;clear ho;obtain ⟨hci,hfi⟩:=Kd.R_celln 0 hR.out (i:Int) (by omega) (by omega);obtain ⟨hck,hfk⟩:=Kd.R_celln 0 hR.out (k:Int) (by omega) (by omega);obtain ⟨bd,rfl,hbi⟩:=Kd.at_int (Kd.C_below HRB.out hB.out) (i:Int) (by omega) (by omega);obtain ⟨bd',hbe,hbk⟩:=Kd.at_int (Kd.C_below HRB.out hB.out) (k:Int) (by omega) (by omega);injection hbe with hbe
     subst hbe;simp only [Int.toNat_natCast,rdOf,rd] at hci hck hbi hbk;obtain ⟨oi,hoi⟩:∃ x,x=o.getD i 0:=⟨_,rfl⟩
     obtain ⟨ok,hok⟩:∃ x,x=o.getD k 0:=⟨_,rfl⟩
     obtain ⟨bi,hbi'⟩:∃ x,x=lb.getD i 0:=⟨_,rfl⟩
     obtain ⟨bk,hbk'⟩:∃ x,x=lb.getD k 0:=⟨_,rfl⟩
     replace hci:wr.cell? ⟨g,i,none⟩=some (.int .i64 oi):=by rw [hoi];exact hci
     replace hck:wr.cell? ⟨g,k,none⟩=some (.int .i64 ok):=by rw [hok];exact hck
     rw [← hbi'] at hbi;rw [← hbk'] at hbk;have HST:=As0.mk (show y4y lb i (k+1) (y28 lb i la)=if bi≠bk∨oi=ok then o else y5d oi ok o from by rw [hbi',hbk',hoi,hok,HOE.out];rfl);have HOI:=As0.mk hoi;have HOK2:=As0.mk hok;have HLN:=As0.mk (hln.trans hln2);clear hoi hok hbi' hbk' hfi hfk hln hln2
     by_cases hbb:bi=bk
     ·by_cases hoo:oi=ok
      ·subst hbb hoo
       have HST2:=As0.mk (HST.out.trans (if_pos (.inr rfl)));clear HST;go_wp2_with fail
       go_quiet (fail)
       go_wp2_with fail
       go_roundw
       case rel=>exact ⟨k+1,by go_num,⟨by omega⟩,⟨by rw [HST2.out];exact Kd.R_drewN hR.out _⟩,⟨y00 hB.out _⟩⟩
       case measure=>simp [intOf];omega
      ·subst hbb
       have HST2:=As0.mk (HST.out.trans (if_neg (by rintro (h|h);exact h rfl;exact hoo h)));have hoo1:(oi == ok)=false:=beq_eq_false_iff_ne.mpr hoo;clear HST;go_wp2_with fail
       go_quiet (fail)
       have HRq:=As0.mk (Kd.R_drewN hR.out nq);have HBq:=As0.mk (y00 hB.out nq);go_wp2_with fail
       go_quiet (fail)
       have HR0:=As0.mk (show Kd.R (Kd.int .i64) 3 _ w.heap.size (fun _=>True) (.slice (some ⟨g,0,none⟩) lb.length cap) (y1p oi ok o 0) from by rw [y9g];exact Kd.R_drewN HRq.out nq);have HB0:=As0.mk (y00 HBq.out nq);clear hci hck hbi hbk hR hB HRq HBq;go_wp2_with fail
       go_loopw [53] (fun v53 W=>∃ j:Nat,v53=.int .i64 j∧As0 (j≤lb.length)∧As0 (Kd.R (Kd.int .i64) 3 W w.heap.size (fun _=>True) (.slice (some ⟨g,0,none⟩) lb.length cap) (y1p oi ok o j))∧As0 (Below w.heap.size w W)) (fun v53 _=>(lb.length - intOf v53).toNat)
       case atStart=>exact ⟨0,rfl,⟨Nat.zero_le _⟩,⟨by first|exact HR0.out|(have h:=HR0.out;rwa [World.drewN_drewN] at h)⟩,⟨by first|exact HB0.out|(have h:=HB0.out;rwa [World.drewN_drewN] at h)⟩⟩
       case round =>
        clear HR0 HB0;obtain ⟨j,rfl,hj,hR,hB⟩:=hrel;have hj':=hj.out
        by_cases hjl:j<lb.length
        ·have hol:j<o.length:=by have:=HLN.out;have:=HAB.out;omega
         obtain ⟨hcj,hfj⟩:=Kd.R_celln 0 hR.out (j:Int) (by omega) (by omega);simp only [Int.toNat_natCast] at hcj hfj;obtain ⟨oj,hoj⟩:∃ x,x=o.getD j 0:=⟨_,rfl⟩
         replace hcj:wr.cell? ⟨g,j,none⟩=some (.int .i64 oj):=by rw [hoj,← y8c oi ok hol];exact hcj
         by_cases hjo:oj=oi
         ·have HP:=Kd.R_putn hR.out (j:Int) ok
          rw [Int.toNat_natCast,show (y1p oi ok o j).set j ok=y1p oi ok o (j+1) from by rw [y5c oi ok hol,← hoj,if_pos hjo]] at HP;have HP2:=As0.mk HP;have HB2:=As0.mk (hB.out.setCell (p:=⟨g,j,none⟩) hbg (.int .i64 ok));subst hjo;clear HP hoj hol;go_wp2_with fail
          go_roundw
          case rel=>exact ⟨j+1,by go_num,⟨by omega⟩,HP2,HB2⟩
          case measure=>simp [intOf];omega
         ·have HP2:=As0.mk (show Kd.R (Kd.int .i64) 3 wr w.heap.size (fun _=>True) (.slice (some ⟨g,0,none⟩) lb.length cap) (y1p oi ok o (j+1)) from by rw [y9h oi ok hol (by rw [← hoj];exact hjo)];exact hR.out)
          have hjo1:(oj == oi)=false:=beq_eq_false_iff_ne.mpr hjo;clear hoj hol;go_wp2_with fail
          go_roundw
          case rel=>exact ⟨j+1,by go_num,⟨by omega⟩,HP2,hB⟩
          case measure=>simp [intOf];omega
        ·have hje:j=lb.length:=by omega
         have HRn:=As0.mk (show Kd.R (Kd.int .i64) 3 wr w.heap.size (fun _=>True) (.slice (some ⟨g,0,none⟩) lb.length cap) (y4y lb i (k+1) (y28 lb i la)) from by
          rw [HST2.out,← ybi,HLN.out,HAB.out];have h:=hR.out;rw [hje] at h;exact h)
         clear hje;go_wp2_with fail
         go_roundw
         case rel=>exact ⟨k+1,by go_num,⟨by omega⟩,HRn,hB⟩
         case measure=>simp [intOf];omega
     ·have HST2:=As0.mk (HST.out.trans (if_pos (.inl hbb)))
      have hbb1:(bi == bk)=false:=beq_eq_false_iff_ne.mpr hbb;have hbb2:(bi != bk)=true:=bne_iff_ne.mpr hbb;clear HST;go_wp2_with fail
      go_quiet (fail)
      go_wp2_with fail
      go_roundw
      case rel=>exact ⟨k+1,by go_num,⟨by omega⟩,⟨by rw [HST2.out];exact Kd.R_drewN hR.out _⟩,⟨y00 hB.out _⟩⟩
      case measure=>simp [intOf];omega
    ·have hke:k=i:=by omega
     have HRn:=As0.mk (show Kd.R (Kd.int .i64) 3 wr w.heap.size (fun _=>True) (.slice (some ⟨g,0,none⟩) lb.length cap) (y28 lb (i+1) la) from by have:=hR.out;rw [hke] at this;exact this);clear hke;go_wp2_with fail
     have hii:=HI.out
     go_roundw
     case rel=>exact ⟨i+1,by go_num,⟨by have:=HI.out;omega⟩,HRn,hB⟩
     case measure=>have:=HI.out;simp [intOf];omega
  ·have hke:i=lb.length:=by omega
   have HR:=As0.mk (show Kd.R (Kd.int .i64) 3 wr w.heap.size (fun _=>True) v5 (y28 lb lb.length la) from hke ▸ hR.out);clear hke;obtain ⟨Ao,co,rfl,hco,hC⟩:=Kd.R_reads HR.out;have HN:=As0.mk (num_all Ao co _ wr hC HOK.out (by rw [y2f];exact HL.out));clear hC;go_wp2_with fail
   refine HN.out.mono ?_
   rintro e w2 ⟨v,rfl,hO,hb⟩
   have HO:=As0.mk (hO.lower hB.out.size);have HB2:=As0.mk (y04 hB.out hb);clear hO hb HN;go_wp2_with fail
   go_ret
   exact ⟨_,rfl,HO.out,HB2.out⟩
end Go.Proofs.Ytdhgeondbnpeoaa.Ext
namespace Go.Proofs.Ytdhgeondbnpeoaa.Ca
open Go.RowKit Go.Mt Go.Proofs.Ytdhgeondbnpeoaa.P Go.Proofs.Yw.Wd Go.Proofs.Yw.La Go.Proofs.Yw.Mo
theorem y9c {w:World} {b:Nat} {xs:List Int} (h:IntBlk w b xs) (hn:xs.length≤9223372036854775807):Kd.C (Kd.int .i64) w (some ⟨b,0,none⟩) xs.length xs:=by
 obtain ⟨cs,fr,h1,h2,h3⟩:=h;refine Kd.C_of_reads (d:=(0:Int)) (h1:=fun _=>rfl) ⟨rfl,hn,fun _=>⟨_,rfl,fun j hj=>?_⟩⟩;rw [y2g,cell_of_row w b j cs 3 fr h1];refine h3 j _ ?_;rw [List.getD_eq_getElem?_getD,List.getElem?_eq_getElem hj];rfl
theorem blk_V {w:World} {b c e N:Nat} {xs:List Int} (h:IntBlk w b xs) (hn:xs.length≤9223372036854775807) (hc:xs.length≤c):Kd.V (Kd.int .i64) e w N (fun _=>True) (.slice (some ⟨b,0,none⟩) xs.length c) xs :=
 Kd.V_mk hc fun W' hW=>y9c (h.of_get (hW b trivial h.lt)) hn
theorem y9r {w:World} {N:Nat} {v:Value} {xs:List Int} (h:Ext.OwnI w N v xs) (hx:0<xs.length):ResI N w v xs:=by
 obtain ⟨⟨h1,h2⟩,h3⟩:=h;rcases h2 with ⟨_,h0⟩|⟨g,cap,cur,rfl,hb,hg,hn,hm,hs,ht⟩
 ·omega
 ·refine ⟨g,cap,rfl,hb,cur,(0,0),hg,fun c hc=>?_,fun i x hi=>?_⟩
  ·obtain ⟨y,rfl⟩:=h3 g cur _ rfl hg c hc
   rfl
  ·have hlt:i<xs.length:=(List.getElem?_eq_some_iff.1 hi).1
   have e:(nums IntKind.i64 xs)[i]?=some (Value.int .i64 x):=by simp [nums,hi]
   rw [← ht,List.getElem?_take,if_pos (by omega)] at e;simpa using e
theorem same_l (xs:List Int) (hn:xs.length≤4):∀ (n k i:Nat),n=xs.length - i->n<k->w6_same.l0 k xs xs (i:Int)=some true
 |n,0,i,_,h=>absurd h (by omega)
 |n,k+1,i,h,hk=>by
  unfold w6_same.l0
  by_cases hi:(i:Int)<(xs.length:Int)
  ·rw [if_pos hi,if_pos (by omega),if_pos hi,if_pos rfl,show wrap64 ((i:Int)+1)=((i+1:Nat):Int) by unfold wrap64;omega]
   exact same_l xs hn (n - 1) k (i+1) (by omega) (by omega)
  ·rw [if_neg hi]
theorem ycs (xs:List Int) (hn:xs.length≤4):w6_same.f 60 xs xs=some true:=by
 unfold w6_same.f;rw [if_pos rfl];exact same_l xs hn _ 60 0 rfl (by omega)
theorem two_C {u:World} {b b1 b2:Nat} {xs ys:List Int} (h1:IntBlk u b1 xs) (h2:IntBlk u b2 ys) (hx:xs.length=4) (hy:ys.length=4) (hb:u.heap[b]?=some (.cells #[.slice (some ⟨b1,0,none⟩) 4 4,.slice (some ⟨b2,0,none⟩) 4 4] 29 (0,2))):Kd.C (Kd.slice 3 (Kd.int .i64)) u (some ⟨b,0,none⟩) 2 [xs,ys]:=by
 refine ⟨rfl,by decide,fun _=>⟨_,rfl,fun j p hj=>?_⟩⟩;have e:(Kd.slice 3 (Kd.int .i64)).sz=1:=rfl;have key:∀ (c:Nat) (zs:List Int) (j:Nat),IntBlk u c zs->zs.length=4->(#[Value.slice (some ⟨b1,0,none⟩) 4 4,.slice (some ⟨b2,0,none⟩) 4 4]:Array Value)[j]?=some (.slice (some ⟨c,0,none⟩) 4 4)->∃ c,c.length=1∧(Kd.slice 3 (Kd.int .i64)).K u zs c∧∀ i v,c[i]?=some v->u.cell? ((⟨b,0,none⟩:Addr).add (j * 1+i))=some v:=by
  intro c zs j hc hz hj;refine ⟨[.slice (some ⟨c,0,none⟩) 4 4],rfl,⟨some ⟨c,0,none⟩,4,by rw [hz],by omega,y9c hc (by omega)⟩,fun i v hi=>?_⟩;have hi0:i=0:=by
   have:=(List.getElem?_eq_some_iff.1 hi).1;simp at this;omega
  subst hi0;rw [y2g,cell_of_row u b _ _ 29 _ hb,Nat.mul_one,Nat.add_zero,hj];simpa using hi
 rcases j with _|_|j
 ·injection hj with hj
  subst hj;exact key b1 _ 0 h1 hx rfl
 ·have hj':ys=p:=by simpa using hj
  subst hj';exact key b2 _ 1 h2 hy rfl
 ·simp at hj
theorem alK:AlK Tra.prog where
 c36 u b h:=(mobs_Rank.calls 60 (fun _=>True) (some ⟨b,0,none⟩) 3 [0,1,1] 3 0 u (blk_V h (by decide) (by decide)) (by decide +kernel)).mono fun e w' hp=>hp.1
 c25 u b h:=(mobs_Between.flat 60 (fun _=>True) (some ⟨b,0,none⟩) 3 [0,0,1] [0,1,1] 0 u (blk_V h (by decide) (by decide)) (by decide +kernel)).mono fun e w' ⟨v,he,hO,_⟩=>⟨v,he,y9r hO (by decide)⟩
 c16 u:=(mobs_Count.calls 60 4 2 7 0 u (by decide +kernel)).mono fun e w' hp=>hp.1
 c18 u:=(mobs_Plain.calls 60 4 2 6 0 u (by decide +kernel)).mono fun e w' hp=>hp.1
 c23 u b h:=(mobs_Crossed.calls 60 (fun _=>True) (some ⟨b,0,none⟩) 4 [0,1,0,1] 0 1 2 3 true 0 u (blk_V h (by decide) (by decide)) (by decide +kernel)).mono fun e w' hp=>hp.1
 c27 u b1 b2 c1 c2 xs h1 h2 hn:=(w6_same.nocap 60 (some ⟨b1,0,none⟩) c1 xs (some ⟨b2,0,none⟩) c2 xs true u (y9c h1 (by omega)) (y9c h2 (by omega)) (ycs xs hn)).mono fun e w' hp=>hp.1
 c49 u b b1 b2 h1 h2 hb:=(mobs_read.calls 60 (some ⟨b,0,none⟩) 2 [[0,0,1,1],[0,1,1,0]] 0 u (two_C h1 h2 rfl rfl hb) (by decide) (by decide +kernel)).mono fun e w' hp=>hp.1
 c63 u b1 b2 h1 h2:=(mobs_below.flat 60 (some ⟨b1,0,none⟩) 4 [0,0,1,1] (some ⟨b2,0,none⟩) 4 [0,1,1,0] [0,1,2,3] u (y9c h1 (by decide)) (by decide) (y9c h2 (by decide)) (by decide) (by decide +kernel)).mono fun e w' ⟨v,he,hO,_⟩=>⟨v,he,y9r hO (by decide)⟩
 c65 u b1 b2 h1 h2:=by
  refine (Ext.above_all (some ⟨b1,0,none⟩) 4 [0,0,1,1] (some ⟨b2,0,none⟩) 4 [0,1,1,0] u (y9c h1 (by decide)) (y9c h2 (by decide)) rfl (by decide) (by decide)).mono fun e w' ⟨v,he,hO,_⟩=>⟨v,he,?_⟩
  have e1:Ext.aboveL [0,0,1,1] [0,1,1,0]=[0,0,0,0]:=by decide +kernel
  rw [e1] at hO;exact y9r hO (by decide)
end Go.Proofs.Ytdhgeondbnpeoaa.Ca
namespace Go.Proofs.Ytdhgeondbnpeoaa.Ca
open Go.RowKit Go.Mt Go.Tr Go.Conc Go.ConcN
section
theorem yjn {W w:World} (h:Kept W.heap.size W w):Below W.heap.size W w:=⟨h.os,h.tape,h.output,h.size,h.old⟩
end
section
structure SlD where
 a:Option Addr
 len:Nat
 cap:Nat
 zs:List Int
def SlD.val (d:SlD):Value:=.slice d.a d.len d.cap
def SlD.ok (W:World) (d:SlD):Prop :=
 (d.a=none∧d.len=0∧d.cap=0∧d.zs=[])∨∃ x,d.a=some x∧x.spot=none∧(∃ cs e fr,W.heap[x.block]?=some (.cells cs e fr))∧d.len≤d.cap∧d.cap≤maxLen∧d.zs.length=d.cap ∧
  (∀ i,i<d.zs.length->W.cell? (x.add i)=some (.int .i64 (d.zs.getD i 0)))∧∀ n ∈ d.zs,(Lit.int .i64 n).wf=true
def SlD.ints (d:SlD):Array Value:=(d.zs.map (Value.int .i64)).toArray
def lone (N:Nat):Nat->List SlD->List SlD
 |_,[]=>[]
 |j,d :: ds=>match d.a with
  |none=>d :: lone N j ds
  |some _=>{ d with a:=some ⟨N+j,0,none⟩ } :: lone N (j+1) ds
def als:List SlD->List (Nat × Nat)
 |[]=>[]
 |d :: ds=>match d.a with
  |none=>als ds
  |some x=>(x.block,x.off) :: als ds
def blks:List SlD->List Obj
 |[]=>[]
 |d :: ds=>match d.a with
  |none=>blks ds
  |some _=>.cells d.ints 3 (0,d.ints.size) :: blks ds
theorem yb7:∀ ds:List SlD,(blks ds).length=(als ds).length
 |[]=>rfl
 |d :: ds=>by
  unfold blks als;cases d.a<;>simp [yb7 ds]
theorem y7y (N:Nat):∀ (j:Nat) (ds:List SlD),(lone N j ds).length=ds.length
 |_,[]=>rfl
 |j,d :: ds=>by
  unfold lone;cases d.a<;>simp [y7y]
theorem ya4 (N:Nat):∀ (ds:List SlD) (j k:Nat) (d d':SlD),ds[k]?=some d->(lone N j ds)[k]?=some d' →
  d'.len=d.len∧d'.cap=d.cap∧d'.zs=d.zs∧((d.a=none∧d'.a=none)∨∃ x i,d.a=some x∧d'.a=some ⟨N+(j+i),0,none⟩∧(als ds)[i]?=some (x.block,x.off)∧(blks ds)[i]?=some (.cells d.ints 3 (0,d.ints.size)))
 |[],j,k,d,d',h,_=>by simp at h
 |c :: ds,j,k,d,d',h,h'=>by
  unfold lone at h';unfold als blks;cases hc:c.a with
  |none =>
   rw [hc] at h';simp only at h' ⊢;cases k with
   |zero =>
    simp only [List.getElem?_cons_zero,Option.some.injEq] at h h';subst h h';exact ⟨rfl,rfl,rfl,.inl ⟨hc,hc⟩⟩
   |succ k =>
    simp only [List.getElem?_cons_succ] at h h';exact ya4 N ds j k d d' h h'
  |some x =>
   rw [hc] at h';simp only at h' ⊢;cases k with
   |zero =>
    simp only [List.getElem?_cons_zero,Option.some.injEq] at h h';subst h h';exact ⟨rfl,rfl,rfl,.inr ⟨x,0,hc,rfl,rfl,rfl⟩⟩
   |succ k =>
    simp only [List.getElem?_cons_succ] at h h';obtain ⟨h1,h2,h3,h4⟩:=ya4 N ds (j+1) k d d' h h';refine ⟨h1,h2,h3,h4.imp id ?_⟩
    rintro ⟨y,i,e1,e2,e3,e4⟩
    exact ⟨y,i+1,e1,by rw [e2];congr 2;omega,by simpa using e3,by simpa using e4⟩
theorem yb8:∀ (ds:List SlD) (i b s:Nat),(als ds)[i]?=some (b,s)->∃ d x,d ∈ ds∧d.a=some x∧x.block=b∧x.off=s∧(blks ds)[i]?=some (.cells d.ints 3 (0,d.ints.size))
 |[],i,b,s,h=>by simp [als] at h
 |c :: ds,i,b,s,h=>by
  unfold als at h;unfold blks;cases hc:c.a with
  |none =>
   rw [hc] at h;obtain ⟨d,x,h1,h2⟩:=yb8 ds i b s h;exact ⟨d,x,List.mem_cons_of_mem _ h1,h2⟩
  |some y =>
   rw [hc] at h;simp only at h;cases i with
   |zero =>
    simp only [List.getElem?_cons_zero,Option.some.injEq,Prod.mk.injEq] at h;exact ⟨c,y,List.mem_cons_self,hc,h.1,h.2,rfl⟩
   |succ i =>
    simp only [List.getElem?_cons_succ] at h;obtain ⟨d,x,h1,h2,h3,h4,h5⟩:=yb8 ds i b s h;exact ⟨d,x,List.mem_cons_of_mem _ h1,h2,h3,h4,by simpa using h5⟩
def ya5 (W:World) (ds:List SlD):World:={ W with heap:=Array.replicate W.heap.size (.map #[] 0) ++ (blks ds).toArray }
def KA (W:World) (ds:List SlD):Cfg:=⟨W.heap.size,fun _=>False,fun _=>False,als ds⟩
theorem y95 (W:World) (ds:List SlD) (j:Nat):(ya5 W ds).heap[W.heap.size+j]?=(blks ds)[j]?:=by
 unfold ya5;simp only;rw [Array.getElem?_append_right (by simp)];simp
theorem yj2 {W:World} {ds:List SlD} (hok:∀ d ∈ ds,d.ok W):WRel (KA W ds) ((als ds).map Prod.fst) (ya5 W ds) W:=by
 have hlt:∀ (j b s:Nat),(als ds)[j]?=some (b,s)->b<W.heap.size:=by
  intro j b s hj;obtain ⟨d,x,h1,h2,h3,_⟩:=yb8 ds j b s hj;rcases hok d h1 with ⟨h4,_⟩|⟨y,h4,_,⟨cs,e,fr,h5⟩,_⟩
  ·rw [h2] at h4;cases h4
  ·obtain rfl:=zSi (h2.symm.trans h4)
   rw [← h3];exact (zGe h5).1
 have hL:∀ (j b:Nat),((als ds).map Prod.fst)[j]?=some b->b<W.heap.size:=by
  intro j b hj;rw [List.getElem?_map] at hj;obtain ⟨⟨b',s⟩,h1,h2⟩:=Option.map_eq_some_iff.1 hj;subst h2;exact hlt j b' s h1
 refine ⟨?_,zLe _,rfl,rfl,hL,fun j b hj hn=>?_,fun i j b hi hj hn=>?_,fun b hb=>hb.elim,fun b hb=>hb.elim,fun j b s hj=>?_⟩
 ·show (Array.replicate W.heap.size _ ++ (blks ds).toArray).size=_
  simp [KA,yb7]
 ·have:=hL j b hj
  exact absurd hn (Nat.not_le_of_lt this)
 ·have:=hL i b hi
  exact absurd hn (Nat.not_le_of_lt this)
 ·replace hj:(als ds)[j]?=some (b,s):=hj
  obtain ⟨d,x,h1,h2,h3,h4,h5⟩:=yb8 ds j b s hj;rcases hok d h1 with ⟨h6,_⟩|⟨y,h6,hsp,⟨cs,e,fr,h7⟩,_,_,hzl,hcell,_⟩
  ·rw [h2] at h6;cases h6
  ·obtain rfl:=zSi (h2.symm.trans h6)
   subst h3 h4;refine ⟨(zGe h7).1,fun h=>h,⟨x.block,by rw [List.getElem?_map,hj];rfl,(zGe h7).1⟩,d.ints,cs,3,e,fr,?_,h7,fun i v hv=>?_⟩
   ·show (ya5 W ds).heap[W.heap.size+j]?=_
    rw [y95,h5]
   ·have hi:i<d.zs.length:=by
     have:=(zGe hv).1;simpa [SlD.ints] using this
    have e1:v=.int .i64 (d.zs.getD i 0):=by
     have:d.ints[i]?=some (.int .i64 (d.zs.getD i 0)):=by simp [SlD.ints,List.getElem?_eq_getElem hi,List.getD_eq_getElem?_getD]
     exact zSi (hv.symm.trans this)
    have e2:=hcell i hi;obtain ⟨xb,xo,xs⟩:=x;simp only at hsp h7;subst hsp;have e3:(⟨xb,xo,none⟩:Addr).add i=⟨xb,xo+i,none⟩:=by unfold Addr.add;split<;>simp_all
    rw [e3,cell_of_row W xb (xo+i) cs e fr h7] at e2;exact ⟨v,by rw [Nat.add_comm,e2,e1],by rw [e1];exact .flat rfl⟩
theorem yb4 {W:World} {ds:List SlD} (hok:∀ d ∈ ds,d.ok W) {k:Nat} {d d':SlD} (h:ds[k]?=some d) (h':(lone W.heap.size 0 ds)[k]?=some d') :
  d'.len=d.len∧d'.cap=d.cap∧d'.zs=d.zs∧RelC (KA W ds) ((als ds).map Prod.fst) d'.val d.val∧∀ u:World,u.heap=(ya5 W ds).heap->d'.ok u:=by
 obtain ⟨h1,h2,h3,h4⟩:=ya4 W.heap.size ds 0 k d d' h h';refine ⟨h1,h2,h3,?_,fun u hu=>?_⟩
 ·rcases h4 with ⟨e1,e2⟩|⟨x,i,e1,e2,e3,_⟩
  ·unfold SlD.val
   rw [e1,e2,h1,h2];exact .flat rfl
  ·unfold SlD.val
   rw [e1,e2,h1,h2];have hsp:x.spot=none:=by
    rcases hok d (List.mem_of_getElem? h) with ⟨h6,_⟩|⟨y,h6,hsp,_⟩
    ·rw [e1] at h6;cases h6
    ·obtain rfl:=zSi (e1.symm.trans h6)
     exact hsp
   exact .slice (s:=x.off) (.inr ⟨i,by simp [KA],e3⟩) (by simp) (by simp [hsp])
 ·rcases hok d (List.mem_of_getElem? h) with ⟨g1,g2,g3,g4⟩|⟨y,g1,_,_,g2,g3,g4,g5,g6⟩
  ·rcases h4 with ⟨e1,e2⟩|⟨x,i,e1,_⟩
   ·exact .inl ⟨e2,by rw [h1,g2],by rw [h2,g3],by rw [h3,g4]⟩
   ·rw [g1] at e1;cases e1
  ·rcases h4 with ⟨e1,e2⟩|⟨x,i,e1,e2,_,e4⟩
   ·rw [g1] at e1;cases e1
   ·have hb:u.heap[W.heap.size+(0+i)]?=some (.cells d.ints 3 (0,d.ints.size)):=by rw [hu,Nat.zero_add,y95,e4]
    refine .inr ⟨_,e2,rfl,⟨_,_,_,hb⟩,by rw [h1,h2];exact g2,by rw [h2];exact g3,by rw [h2,h3];exact g4,fun j hj=>?_,by rw [h3];exact g6⟩;rw [h3] at hj ⊢;have e3:(⟨W.heap.size+(0+i),0,none⟩:Addr).add j=⟨W.heap.size+(0+i),j,none⟩:=by unfold Addr.add;split<;>simp_all
    rw [e3,cell_of_row u _ j d.ints 3 _ hb];simp [SlD.ints,List.getElem?_eq_getElem hj,List.getD_eq_getElem?_getD]
theorem relPs_nil (K:Cfg) (L:List Nat):RelPs K L #[] #[]:=⟨rfl,fun i v v' h=>by simp at h⟩
theorem relPs_push {K:Cfg} {L:List Nat} {cs cs':Array Value} (h:RelPs K L cs cs') {v v':Value} (hv:RelC K L v v'):RelPs K L (cs.push v) (cs'.push v'):=by
 refine ⟨by simp [h.1],fun i a b ha hb=>?_⟩;rw [Array.getElem?_push] at ha hb
 by_cases hi:i=cs.size
 ·rw [if_pos hi] at ha
  rw [if_pos (by rw [h.1];exact hi)] at hb;obtain rfl:=zSi ha;obtain rfl:=zSi hb;exact .cell hv
 ·rw [if_neg hi] at ha
  rw [if_neg (by rw [h.1];exact hi)] at hb;exact h.2 i a b ha hb
theorem law_runS {f:FuncId} {fn:Func} {W:World} (ds:List SlD) (hok:∀ d ∈ ds,d.ok W) (mk:List SlD->Array Value) (hi:Try.prog.inits.idxOf? f=none) (hf:Tra.prog.funcs[f]?=some fn) (hS:S1 f=true) (hT:T1 f=true) (hres:y5b fn=true)
  (hmk:∀ (K:Cfg) (L:List Nat) (ds':List SlD),ds'.length=ds.length->(∀ (k:Nat) (d d':SlD),ds[k]?=some d->ds'[k]?=some d'->RelC K L d'.val d.val)->RelPs K L (mk ds') (mk ds))
  (hc:∀ (u:World) (ds':List SlD),ds'.length=ds.length->(∀ (k:Nat) (d d':SlD),ds[k]?=some d->ds'[k]?=some d'->d'.len=d.len∧d'.cap=d.cap∧d'.zs=d.zs∧d'.ok u)->Calls Tra.prog f (mk ds') u fun e _=>e=.returned (.bool true)) :
  ∃ M last o w' t',runNT Try.prog (M+1) (solo (G (Frame.enter Try.prog f (mk ds) .normal) []) W) #[]=(.ended o w',t')∧runN Try.prog M (solo (G (Frame.enter Try.prog f (mk ds) .normal) []) W)=.next last∧step Try.prog last=.ended o w' ∧
   Go.Conc.Good Try.prog (fun v' w'=>v'=.bool true∧Below W.heap.size W w') last o w' t':=by
 obtain ⟨M,last,o,w',t',h1,h2,h3,v',e0,⟨L,v,u,hv,_,hk,rfl⟩,r0⟩:=hyb_run (Rd:=fun _=>False) (al:=als ds) (L0:=(als ds).map Prod.fst) (W:=W) (u0:=ya5 W ds) (args:=mk (lone W.heap.size 0 ds)) (args':=mk ds) Tra.same Tra.calm1 Tra.calmT
  (y7b Tra.duo Tra.calm1 alK Tra.als res23 Tra.stand Tra.t20 (fun b h=>h.elim)) hi hf hS hT hres
  (hmk _ _ _ (y7y _ _ _) fun k d d' hd hd'=>(yb4 hok hd hd').2.2.2.1) (yj2 hok) (Post:=fun v _=>v=.bool true) (fun _ _ _ h=>h)
  (fun τ=>(hc (retape (ya5 W ds) τ) (lone W.heap.size 0 ds) (y7y _ _ _) fun k d d' hd hd'=>let ⟨q1,q2,q3,_,q5⟩:=yb4 hok hd hd';⟨q1,q2,q3,q5 _ rfl⟩).mono fun e _ h=>⟨_,h,rfl⟩)
 refine ⟨M,last,o,w',t',h1,h2,h3,v',e0,⟨?_,yjn hk⟩,r0⟩;split at hv
 ·exact y48 hv rfl
 ·exact y8r hv rfl
theorem SlD.row {u:World} {d:SlD} (h:d.ok u):(d.a=none∧d.len=0∧d.cap=0∧d.zs=[])∨∃ x,d.a=some x∧d.len≤d.cap∧d.cap≤maxLen∧d.zs.length=d.cap∧(∀ i,i<d.zs.length->u.cell? (x.add i)=some (.int .i64 (d.zs.getD i 0)))∧∀ n ∈ d.zs,(Lit.int .i64 n).wf=true:=by
 rcases h with h|⟨x,h1,_,_,h2⟩
 ·exact .inl h
 ·exact .inr ⟨x,h1,h2⟩
theorem has_of {P:Program} {W:World} {base:Nat} {t e:TypeId} {x:Addr} {len cap:Nat} (hu:P.underlying t=some (.slice e)) (hv:Value.okWide P W .any base t (.slice (some x) len cap)):W.has P .any base x e cap:=by
 simp only [Value.okWide,hu,Cell.okWide,Cell.ok] at hv;exact hv.2.2
theorem sl_ok {W:World} {base:Nat} {a:Option Addr} {len cap:Nat} {zs:List Int} (hv:Value.okWide Try.prog W .any base 29 (.slice a len cap))
  (hr:(a=none∧len=0∧cap=0∧zs=[])∨∃ x,a=some x∧len≤cap∧cap≤maxLen∧zs.length=cap∧(∀ i,i<zs.length->W.cell? (x.add i)=some (.int .i64 (zs.getD i 0)))∧∀ n ∈ zs,(Lit.int .i64 n).wf=true):(⟨a,len,cap,zs⟩:SlD).ok W:=by
 rcases hr with hr|⟨x,rfl,h2⟩
 ·exact .inl hr
 ·obtain ⟨_,hsp,row,cells,hs,_⟩:=has_of Try.underlying29 hv
  refine .inr ⟨x,rfl,hsp,?_,h2⟩;unfold World.shape? at hs;cases hb:W.heap[x.block]? with
  |none=>rw [hb] at hs;simp at hs
  |some o =>
   rw [hb] at hs;cases o with
   |cells cs e fr=>exact ⟨cs,e,fr,rfl⟩
   |_=>simp at hs
end
end Go.Proofs.Ytdhgeondbnpeoaa.Ca
namespace Go.Proofs.Ytdhgeondbnpeoaa.P
open Go.RowKit Go.Proofs.Yw.Wd Go.Proofs.Yw.La Go.Proofs.Yw.Mo
attribute [local go_sem] y13 y11 y1c y1b y0v y0u y12 y10
def mobs_Around.f (k:Nat) (l0:List Int) (a1:Int):Option (List Int × Int):=(mobs_read.f k (([l0]:List (List Int)))).bind fun t427=>(if t427=0 then (if (l0.length:Int)=0 then (some (([]:List Int),0)) else (if 0≤(Int.tmod (wrap64 ((Int.tmod a1 (l0.length:Int))+(l0.length:Int))) (l0.length:Int)) then (if (Int.tmod (wrap64 ((Int.tmod a1 (l0.length:Int))+(l0.length:Int))) (l0.length:Int))≤(l0.length:Int) then ((slices_Clone_int_int.f (l0.drop ((Int.tmod (wrap64 ((Int.tmod a1 (l0.length:Int))+(l0.length:Int))) (l0.length:Int)):Int).toNat)).bind fun t433=>((some (l0.take ((Int.tmod (wrap64 ((Int.tmod a1 (l0.length:Int))+(l0.length:Int))) (l0.length:Int)):Int).toNat:List Int)).bind fun y436=>(if t433.length+y436.length<17592186044416 then ((mobs_number_int.f (t433 ++ y436)).bind fun t444=>(some (t444,0))) else (none)))) else (none)) else (none))) else (some (([]:List Int),t427)))
def mobs_Around.T7:Bool × List (List Nat × List Nat):=(true,[([],[]),([],[]),([0,1],[0,1]),([2],[2]),([],[]),([],[]),([4,5],[4,5]),([3,6,3],[3,6]),([7,7],[7]),([8,8,0,1,2,3,4,5,6,7,8],[8]),([9,0,1,2,3,4,5,6,7,8,9],[])])
def mobs_Around.B7:List Nat:=[0,0,3,7,0,0,48,127,255,511,1023]
theorem mobs_Around.tab7:rtab .any (yhi Tra.f28 7)=mobs_Around.T7:=by kernel_rfl
theorem mobs_Around.bits7:y36 mobs_Around.T7.2 mobs_Around.B7=true:=by kernel_rfl
theorem mobs_Around.calls (k:Nat) (P0_:Nat->Prop) (A0:Option Addr) (c0:Nat) (l0:List Int) (a1:Int) (r1:List Int) (r2:Int) (w:World) (hs0:Kd.V (Kd.int .i64) 3 w w.heap.size (fun k_=>P0_ k_) (.slice A0 l0.length c0) l0) (h:mobs_Around.f k l0 a1=some (r1,r2)) :
  Calls Tra.prog 28 #[.slice A0 l0.length c0,.int .i64 a1] w fun e w'=>∃ v0_:Value,e=.returned (.tuple #[v0_,.int .i64 r2])∧Kd.R (Kd.int .i64) 3 w' w.heap.size (fun k_=>(w.heap.size≤k_)) v0_ r1∧Below w.heap.size w w':=by
 have HO0:=As0.mk (show Kd.V (Kd.int .i64) 3 w w.heap.size (fun k_=>(P0_ k_∨w.heap.size≤k_)) (.slice A0 l0.length c0) l0 from Kd.V_mono hs0 (fun k_ hk=>.inl hk));have HB:=As0.mk (Below.refl w.heap.size w);have H:((mobs_read.f k (([l0]:List (List Int)))).bind fun t427=>(if t427=0 then (if (l0.length:Int)=0 then (some (([]:List Int),0)) else (if 0≤(Int.tmod (wrap64 ((Int.tmod a1 (l0.length:Int))+(l0.length:Int))) (l0.length:Int)) then (if (Int.tmod (wrap64 ((Int.tmod a1 (l0.length:Int))+(l0.length:Int))) (l0.length:Int))≤(l0.length:Int) then ((slices_Clone_int_int.f (l0.drop ((Int.tmod (wrap64 ((Int.tmod a1 (l0.length:Int))+(l0.length:Int))) (l0.length:Int)):Int).toNat)).bind fun t433=>((some (l0.take ((Int.tmod (wrap64 ((Int.tmod a1 (l0.length:Int))+(l0.length:Int))) (l0.length:Int)):Int).toNat:List Int)).bind fun y436=>(if t433.length+y436.length<17592186044416 then ((mobs_number_int.f (t433 ++ y436)).bind fun t444=>(some (t444,0))) else (none)))) else (none)) else (none))) else (some (([]:List Int),t427))))=some (r1,r2):=h;clear h;obtain ⟨y424,hy424⟩:∃ y_:List (List Int),y_=(([l0]:List (List Int))):=⟨_,rfl⟩
 replace H:((mobs_read.f k y424).bind fun t427=>(if t427=0 then (if (l0.length:Int)=0 then (some (([]:List Int),0)) else (if 0≤(Int.tmod (wrap64 ((Int.tmod a1 (l0.length:Int))+(l0.length:Int))) (l0.length:Int)) then (if (Int.tmod (wrap64 ((Int.tmod a1 (l0.length:Int))+(l0.length:Int))) (l0.length:Int))≤(l0.length:Int) then ((slices_Clone_int_int.f (l0.drop ((Int.tmod (wrap64 ((Int.tmod a1 (l0.length:Int))+(l0.length:Int))) (l0.length:Int)):Int).toNat)).bind fun t433=>((some (l0.take ((Int.tmod (wrap64 ((Int.tmod a1 (l0.length:Int))+(l0.length:Int))) (l0.length:Int)):Int).toNat:List Int)).bind fun y436=>(if t433.length+y436.length<17592186044416 then ((mobs_number_int.f (t433 ++ y436)).bind fun t444=>(some (t444,0))) else (none)))) else (none)) else (none))) else (some (([]:List Int),t427))))=some (r1,r2):=by first|(rw [hy424];with_reducible exact H)|(have H2_:=(Option.bind_some _ _).symm.trans H;rw [hy424];with_reducible exact H2_)|(have H2_:=(Option.bind_some _ _).symm.trans H;with_reducible exact H2_)|with_reducible exact H|(rw [hy424];exact H)|exact H
 have Ny424:=As0.mk hy424;clear hy424;replace H:=Option.bind_eq_some_iff.mp H;obtain ⟨t427,A30,H⟩:=H;replace H:(if t427=0 then (if (l0.length:Int)=0 then (some (([]:List Int),0)) else (if 0≤(Int.tmod (wrap64 ((Int.tmod a1 (l0.length:Int))+(l0.length:Int))) (l0.length:Int)) then (if (Int.tmod (wrap64 ((Int.tmod a1 (l0.length:Int))+(l0.length:Int))) (l0.length:Int))≤(l0.length:Int) then ((slices_Clone_int_int.f (l0.drop ((Int.tmod (wrap64 ((Int.tmod a1 (l0.length:Int))+(l0.length:Int))) (l0.length:Int)):Int).toNat)).bind fun t433=>((some (l0.take ((Int.tmod (wrap64 ((Int.tmod a1 (l0.length:Int))+(l0.length:Int))) (l0.length:Int)):Int).toNat:List Int)).bind fun y436=>(if t433.length+y436.length<17592186044416 then ((mobs_number_int.f (t433 ++ y436)).bind fun t444=>(some (t444,0))) else (none)))) else (none)) else (none))) else (some (([]:List Int),t427)))=some (r1,r2):=H;have A3:=As0.mk A30;clear A30
 by_cases c4:t427=0
 ·rw [if_pos c4] at H
  have c4b0:(t427 == 0)=true:=beq_iff_eq.mpr c4;have c4b1:(t427 != 0)=false:=bne_eq_false_iff_eq.mpr c4;clear c4
  by_cases c5:(l0.length:Int)=0
  ·rw [if_pos c5] at H
   have c5b0:((l0.length:Int) == 0)=true:=beq_iff_eq.mpr c5;have c5b1:((l0.length:Int) != 0)=false:=bne_eq_false_iff_eq.mpr c5;clear c5;simp only [Option.some.injEq,Prod.mk.injEq] at H;obtain ⟨rfl,rfl⟩:=H;go_enter Tra.func28,Tra.ntmps28
   go_wp2_with (first|((with_reducible refine y0n (N:=9) rfl ?_);refine Kd.N_lit (Kd.slice 3 (Kd.int .i64)) _ 29 ?hg (N':=9) ?hd (xs:=([l0]:List (List Int))) (inner:=[.slice A0 l0.length c0]) (ok:=(fun k_=>(P0_ k_∨w.heap.size≤k_))) (okp:=(fun k_=>(P0_ k_∨w.heap.size≤k_))) ?hr ?hp (fun _ hk=>hk) ((show ∀ k_,w.heap.size≤k_->(fun k_=>(P0_ k_∨w.heap.size≤k_)) k_ from fun k_ hk=>(.inr (Nat.le_trans (y06 (by repeat (with_reducible first|exact HB.out|apply y01|apply y00|apply y02))) hk))) _ (zLe _)) (Below.refl _ _) (zLe _) (by simp) ?_;(case hd=>rfl);(case hg=>rfl);(case hr=>first|(go_simp;done)|(go_simp;rfl));(case hp=>exact (Reps.one (show Kd.FK (Kd.slice 3 (Kd.int .i64)) _ _ l0 [.slice A0 l0.length c0] from (Kd.FK_slice_mk (Kd.V_reads' (Kd.V_mono (ok':=(fun k_=>(P0_ k_∨w.heap.size≤k_))) (HO0.out) (fun k_ hk=>hk))).2.1 (Kd.V_F (Kd.V_mono (ok':=(fun k_=>(P0_ k_∨w.heap.size≤k_))) (HO0.out) (fun k_ hk=>hk))))) (Reps.none _ _)));intro v425 w6 ho7 hb hg_ hnew_;clear hg_ hnew_;(first|rw [← Ny424.out] at ho7|(simp only [Int.reduceToNat] at ho7;rw [← Ny424.out] at ho7));have n0_:=As0.mk (Kd.V_elder' (by (with_reducible repeat (first|apply Kd.V_alloc|apply Kd.V_drewN|apply Kd.V_drew));exact HO0.out) (Kd.N_base ho7) hb);have n1_:=As0.mk (Kd.N_lower ho7 (y06 (by repeat (with_reducible first|exact HB.out|apply y01|apply y00|apply y02))));have n2_:=As0.mk (y04 (by repeat (with_reducible first|exact HB.out|apply y01|apply y00|apply y02)) hb);clear HO0;clear HB;have HO0:=n0_;have HO426:=n1_;have HB:=n2_;clear n0_ n1_ n2_;clear hb ho7;obtain ⟨Ao8,co8,eo8⟩:=Kd.N_slice HO426.out;subst eo8)|((with_reducible refine y0a (f:=49) rfl ?_);refine y0k (some 10) rfl rfl Tra.func49 (by kernel_rfl) rfl #[.slice Ao8 y424.length co8] rfl (by (try simp only [List.map_toArray,List.map_cons,List.map_nil]);first|done|rfl|(simp only [List.length_drop,List.length_take];rfl)) ?_;(with_reducible refine (mobs_read.calls k _ _ y424 t427 _ ?side1 ?side2 A3.out).mono ?_);(case side1=>repeat (first|exact (Kd.N_reads' HO426.out).2.2|(with_reducible refine Kd.C_alloc ?_ _)|(with_reducible refine Kd.C_drewN ?_ _)|(with_reducible refine Kd.C_drew ?_)));(case side2=>exact (Kd.N_reads' HO426.out).2.1);rintro e w9 ⟨rfl,hb⟩;refine ⟨_,rfl,?_⟩;have n0_:=As0.mk (Kd.V_below (by (with_reducible repeat (first|apply Kd.V_alloc|apply Kd.V_drewN|apply Kd.V_drew));exact HO0.out) hb);have n1_:=As0.mk (Kd.N_below (by (with_reducible repeat (first|apply Kd.N_alloc|apply Kd.N_drewN|apply Kd.N_drew));exact HO426.out) hb);have n2_:=As0.mk (y04 (by repeat (with_reducible first|exact HB.out|apply y01|apply y00|apply y02)) hb);clear HO0;clear HO426;clear HB;have HO0:=n0_;have HO426:=n1_;have HB:=n2_;clear n0_ n1_ n2_;(try clear hb);(try clear hb2);(try clear hk);(try clear hi)))
   go_ret2
   exact ⟨_,by first|rfl|(simp [y08,y07]<;>rfl)|(simp [*,y08,y07]<;>rfl),by first|exact Kd.R_nil _ _ _ _ _|exact Kd.N_nil _ _ _ _ _|exact Kd.V_nil _ _ _ _ _|exact Kd.Q_nil _ _ _ _ _|exact Kd.S_nil _ _ _ _ _,by repeat (with_reducible first|exact HB.out|apply y01|apply y00|apply y02)⟩
  ·rw [if_neg c5] at H
   have c5b0:((l0.length:Int) == 0)=false:=beq_eq_false_iff_ne.mpr c5;have c5b1:((l0.length:Int) != 0)=true:=bne_iff_ne.mpr c5;have c5b2:¬ (l0=[]):=fun h_=>c5 (by rw [h_];rfl)
   obtain ⟨ji10,hji10⟩:∃ j_:Int,(Int.tmod (wrap64 ((Int.tmod a1 (l0.length:Int))+(l0.length:Int))) (l0.length:Int))=j_:=⟨_,rfl⟩
   replace H:(if 0≤(ji10) then (if (ji10)≤(l0.length:Int) then ((slices_Clone_int_int.f (l0.drop ((ji10):Int).toNat)).bind fun t433=>((some (l0.take ((ji10):Int).toNat:List Int)).bind fun y436=>(if t433.length+y436.length<17592186044416 then ((mobs_number_int.f (t433 ++ y436)).bind fun t444=>(some (t444,0))) else (none)))) else (none)) else (none))=some (r1,r2):=by first|(rw [hji10] at H;exact H)|(simp only [hji10] at H ⊢;exact H)
   (try rw [hji10] at A3)
   by_cases c11:0≤(ji10)
   ·rw [if_pos c11] at H
    have c11b0:=eq_true c11;have c11b1:decide (0≤(ji10))=true:=zDt c11;clear c11
    by_cases c12:(ji10)≤(l0.length:Int)
    ·rw [if_pos c12] at H
     have c12b0:=eq_true c12;have c12b1:decide ((ji10)≤(l0.length:Int))=true:=zDt c12;clear c12;obtain ⟨y428,hy428⟩:∃ y_:List Int,y_=(l0.drop ((ji10):Int).toNat):=⟨_,rfl⟩
     replace H:((slices_Clone_int_int.f y428).bind fun t433=>((some (l0.take ((ji10):Int).toNat:List Int)).bind fun y436=>(if t433.length+y436.length<17592186044416 then ((mobs_number_int.f (t433 ++ y436)).bind fun t444=>(some (t444,0))) else (none))))=some (r1,r2):=by first|(rw [hy428];with_reducible exact H)|(have H2_:=(Option.bind_some _ _).symm.trans H;rw [hy428];with_reducible exact H2_)|(have H2_:=(Option.bind_some _ _).symm.trans H;with_reducible exact H2_)|with_reducible exact H|(rw [hy428];exact H)|exact H
     have Ny428:=As0.mk hy428;clear hy428;replace H:=Option.bind_eq_some_iff.mp H;obtain ⟨t433,A130,H⟩:=H;replace H:((some (l0.take ((ji10):Int).toNat:List Int)).bind fun y436=>(if t433.length+y436.length<17592186044416 then ((mobs_number_int.f (t433 ++ y436)).bind fun t444=>(some (t444,0))) else (none)))=some (r1,r2):=H;have A13:=As0.mk A130;clear A130;have c14b0:=eq_true (zDo (by with_reducible assumption):0≤(ji10));have c15b0:=eq_true (zDo (by with_reducible assumption):(ji10)≤(l0.length:Int));obtain ⟨y436,hy436⟩:∃ y_:List Int,y_=(l0.take ((ji10):Int).toNat):=⟨_,rfl⟩
     replace H:(if t433.length+y436.length<17592186044416 then ((mobs_number_int.f (t433 ++ y436)).bind fun t444=>(some (t444,0))) else (none))=some (r1,r2):=by first|(rw [hy436];with_reducible exact H)|(have H2_:=(Option.bind_some _ _).symm.trans H;rw [hy436];with_reducible exact H2_)|(have H2_:=(Option.bind_some _ _).symm.trans H;with_reducible exact H2_)|with_reducible exact H|(rw [hy436];exact H)|exact H
     have Ny436:=As0.mk hy436;clear hy436
     by_cases c16:t433.length+y436.length<17592186044416
     ·rw [if_pos c16] at H
      have LMc16:=As0.mk c16;clear c16;obtain ⟨y441,hy441⟩:∃ y_:List Int,y_=(t433 ++ y436):=⟨_,rfl⟩
      replace H:((mobs_number_int.f y441).bind fun t444=>(some (t444,0)))=some (r1,r2):=by first|(rw [hy441];with_reducible exact H)|(have H2_:=(Option.bind_some _ _).symm.trans H;rw [hy441];with_reducible exact H2_)|(have H2_:=(Option.bind_some _ _).symm.trans H;with_reducible exact H2_)|with_reducible exact H|(rw [hy441];exact H)|exact H
      have Ny441:=As0.mk hy441;clear hy441;replace H:=Option.bind_eq_some_iff.mp H;obtain ⟨t444,A170,H⟩:=H;replace H:(some (t444,0))=some (r1,r2):=H;have A17:=As0.mk A170;clear A170;simp only [Option.some.injEq,Prod.mk.injEq] at H;obtain ⟨rfl,rfl⟩:=H;go_enter Tra.func28,Tra.ntmps28
      try go_wp2_with (first|((with_reducible refine y0n (N:=9) rfl ?_);refine Kd.N_lit (Kd.slice 3 (Kd.int .i64)) _ 29 ?hg (N':=9) ?hd (xs:=([l0]:List (List Int))) (inner:=[.slice A0 l0.length c0]) (ok:=(fun k_=>(P0_ k_∨w.heap.size≤k_))) (okp:=(fun k_=>(P0_ k_∨w.heap.size≤k_))) ?hr ?hp (fun _ hk=>hk) ((show ∀ k_,w.heap.size≤k_->(fun k_=>(P0_ k_∨w.heap.size≤k_)) k_ from fun k_ hk=>(.inr (Nat.le_trans (y06 (by repeat (with_reducible first|exact HB.out|apply y01|apply y00|apply y02))) hk))) _ (zLe _)) (Below.refl _ _) (zLe _) (by simp) ?_;(case hd=>rfl);(case hg=>rfl);(case hr=>first|(go_simp;done)|(go_simp;rfl));(case hp=>exact (Reps.one (show Kd.FK (Kd.slice 3 (Kd.int .i64)) _ _ l0 [.slice A0 l0.length c0] from (Kd.FK_slice_mk (Kd.V_reads' (Kd.V_mono (ok':=(fun k_=>(P0_ k_∨w.heap.size≤k_))) (HO0.out) (fun k_ hk=>hk))).2.1 (Kd.V_F (Kd.V_mono (ok':=(fun k_=>(P0_ k_∨w.heap.size≤k_))) (HO0.out) (fun k_ hk=>hk))))) (Reps.none _ _)));intro v425 w18 ho19 hb hg_ hnew_;clear hg_ hnew_;(first|rw [← Ny424.out] at ho19|(simp only [Int.reduceToNat] at ho19;rw [← Ny424.out] at ho19));have n0_:=As0.mk (Kd.V_elder' (by (with_reducible repeat (first|apply Kd.V_alloc|apply Kd.V_drewN|apply Kd.V_drew));exact HO0.out) (Kd.N_base ho19) hb);have n1_:=As0.mk (Kd.N_lower ho19 (y06 (by repeat (with_reducible first|exact HB.out|apply y01|apply y00|apply y02))));have n2_:=As0.mk (y04 (by repeat (with_reducible first|exact HB.out|apply y01|apply y00|apply y02)) hb);clear HO0;clear HB;have HO0:=n0_;have HO426:=n1_;have HB:=n2_;clear n0_ n1_ n2_;clear hb ho19;obtain ⟨Ao20,co20,eo20⟩:=Kd.N_slice HO426.out;subst eo20)|((with_reducible refine y0a (f:=49) rfl ?_);refine y0k (some 10) rfl rfl Tra.func49 (by kernel_rfl) rfl #[.slice Ao20 y424.length co20] rfl (by (try simp only [List.map_toArray,List.map_cons,List.map_nil]);first|done|rfl|(simp only [List.length_drop,List.length_take];rfl)) ?_;(with_reducible refine (mobs_read.calls k _ _ y424 t427 _ ?side1 ?side2 A3.out).mono ?_);(case side1=>repeat (first|exact (Kd.N_reads' HO426.out).2.2|(with_reducible refine Kd.C_alloc ?_ _)|(with_reducible refine Kd.C_drewN ?_ _)|(with_reducible refine Kd.C_drew ?_)));(case side2=>exact (Kd.N_reads' HO426.out).2.1);rintro e w21 ⟨rfl,hb⟩;refine ⟨_,rfl,?_⟩;have n0_:=As0.mk (Kd.V_below (by (with_reducible repeat (first|apply Kd.V_alloc|apply Kd.V_drewN|apply Kd.V_drew));exact HO0.out) hb);have n1_:=As0.mk (Kd.N_below (by (with_reducible repeat (first|apply Kd.N_alloc|apply Kd.N_drewN|apply Kd.N_drew));exact HO426.out) hb);have n2_:=As0.mk (y04 (by repeat (with_reducible first|exact HB.out|apply y01|apply y00|apply y02)) hb);clear HO0;clear HO426;clear HB;have HO0:=n0_;have HO426:=n1_;have HB:=n2_;clear n0_ n1_ n2_;(try clear hb);(try clear hb2);(try clear hk);(try clear hi)))
      have n0_:=As0.mk (Kd.V_drew HO0.out);have n1_:=As0.mk (Kd.N_drew HO426.out);have n2_:=As0.mk (y02 HB.out);clear HO0;clear HO426;clear HB;have HO0:=n0_;have HO426:=n1_;have HB:=n2_;clear n0_ n1_ n2_;have q23:((ji10):Int)≤((l0.length:Int):Int):=zDo (by with_reducible assumption);obtain ⟨i023,hi023,_,hsz23,_⟩:=info_parts info3;have hroom23:l0.length≤c0:=(Kd.V_reads' HO0.out).2.1;have hC23:Kd.F (Kd.int .i64) _ _ A0 l0.length l0:=(Kd.V_at (base:=w.heap.size) HO0.out).2.2;have q023:(0:Int)≤((ji10):Int):=zDo (by with_reducible assumption);have hcut23:=yje (P:=Tra.prog) 29 3 .i64 Tra.underlying29 hi023 1 hsz23 A0 l0.length c0 (ji10) q023 q23;have hr23:=Kd.F_cut (m:=((ji10):Int).toNat) (c:=c0) hC23 (by omega) hroom23;obtain ⟨A23,hA23⟩:∃ A1,A1=(if c0=((ji10):Int).toNat then A0 else (A0:Option Addr).map (·.add (((ji10):Int).toNat * 1))):=⟨_,rfl⟩
      obtain ⟨c23,hc23⟩:∃ c1,c1=c0 - ((ji10):Int).toNat:=⟨_,rfl⟩
      have hy23:y428.length=l0.length - ((ji10):Int).toNat:=(by rw [Ny428.out,List.length_drop]<;>omega)
      rw [show (l0).drop ((ji10):Int).toNat=y428 from Ny428.out.symm] at hr23;replace hr23:Kd.F (Kd.int .i64) _ _ A23 y428.length y428:=(by rw [hA23];exact hr23)
      rw [← hy23,← hA23,← hc23] at hcut23;have HO432:=As0.mk (show Kd.V (Kd.int .i64) 3 _ w.heap.size _ (.slice A23 y428.length c23) y428 from Kd.V_mk (by rw [hy23,hc23];exact Nat.sub_le_sub_right hroom23 _) hr23);have HC432:=As0.mk (show y428.length≤c23 from by rw [hy23,hc23];exact Nat.sub_le_sub_right hroom23 _);clear hr23 hC23 hroom23 hi023 hsz23 hc23;have KY23:=As0.mk hy23;have KA23:=As0.mk hA23;clear hy23 hA23;replace q23:=eq_true q23;have q24:((ji10):Int)≤((l0.length:Int):Int):=zDo (by with_reducible assumption);obtain ⟨i024,hi024,_,hsz24,_⟩:=info_parts info3;have hroom24:l0.length≤c0:=(Kd.V_reads' HO0.out).2.1;have hC24:Kd.F (Kd.int .i64) _ _ A0 l0.length l0:=(Kd.V_at (base:=w.heap.size) HO0.out).2.2;have hcut24:=cut_to (P:=Tra.prog) 29 3 .i64 Tra.underlying29 hi024 A0 l0.length c0 (ji10) (zDo (by with_reducible assumption)) q24 hroom24;have hr24:=Kd.F_take (m:=((ji10):Int).toNat) hC24 (by omega);have hy24:y436.length=((ji10):Int).toNat:=(by rw [Ny436.out,List.length_take];omega)
      rw [← Ny436.out] at hr24;rw [← hy24] at hcut24;have HO440:=As0.mk (show Kd.V (Kd.int .i64) 3 _ w.heap.size _ (.slice A0 y436.length c0) y436 from Kd.V_mk (by omega) hr24);have HC440:=As0.mk (show y436.length≤c0 from by omega);clear hr24 hC24 hroom24 hi024 hsz24;have KY24:=As0.mk hy24;clear hy24;replace q24:=eq_true q24;refine yap (n:=11) (S:=fun w'=>True) (ds:=[]) #[false,false,false,false,false,false,false,false,false,false,false] (by kernel_rfl) rfl rfl trivial (fun hHeld=>?_);refine y3y mobs_Around.tab7 mobs_Around.bits7 (fun HT_ HW_=>?_);generalize w21.drew=w22 at HO0 HO426 HB HO432 HO440 hHeld ⊢;refine y15 (i:=0) (N:=some 27) (v:=?_) (a':=?_) #[true,false,false,false,false,false,false,false,false,false,false] rfl rfl (y0q HT_.out (by kernel_rfl)) (fun _ _ _ h=>h) (Or.inl ⟨by rfl,?_⟩) ?_ ?_;rotate_left
      ·intro w'
       go_simp
       with_reducible rfl
      rotate_left
      ·simp only [Act.put,List.setIfInBounds_toArray,List.set_cons_zero,List.set_cons_succ,y0p,y0w]
       rfl
      refine y15 (i:=1) (N:=some 28) (v:=?_) (a':=?_) #[true,true,false,false,false,false,false,false,false,false,false] rfl rfl (y0q HT_.out (by kernel_rfl)) (fun _ _ _ h=>h) (Or.inl ⟨by rfl,?_⟩) ?_ ?_;rotate_left
      ·intro w'
       go_simp
       with_reducible rfl
      rotate_left
      ·simp only [Act.put,List.setIfInBounds_toArray,List.set_cons_zero,List.set_cons_succ,y0p,y0w]
       rfl
      refine y15 (i:=2) (N:=some 29) (v:=?_) (a':=?_) #[true,true,true,false,false,false,false,false,false,false,false] rfl rfl (y0q HT_.out (by kernel_rfl)) (fun _ _ _ h=>h) (Or.inl ⟨by rfl,?_⟩) ?_ ?_;rotate_left
      ·intro w'
       go_simp
       with_reducible rfl
      rotate_left
      ·simp only [Act.put,List.setIfInBounds_toArray,List.set_cons_zero,List.set_cons_succ,y0p,y0w]
       rfl
      refine y15 (i:=4) (N:=some 31) (v:=?_) (a':=?_) #[true,true,true,false,true,false,false,false,false,false,false] rfl rfl (y0q HT_.out (by kernel_rfl)) (fun _ _ _ h=>h) (Or.inl ⟨by rfl,?_⟩) ?_ ?_;rotate_left
      ·intro w'
       go_simp
       with_reducible rfl
      rotate_left
      ·simp only [Act.put,List.setIfInBounds_toArray,List.set_cons_zero,List.set_cons_succ,y0p,y0w]
       rfl
      refine y15 (i:=5) (N:=some 32) (v:=?_) (a':=?_) #[true,true,true,false,true,true,false,false,false,false,false] rfl rfl (y0q HT_.out (by kernel_rfl)) (fun _ _ _ h=>h) (Or.inl ⟨by rfl,?_⟩) ?_ ?_;rotate_left
      ·intro w'
       go_simp
       with_reducible rfl
      rotate_left
      ·simp only [Act.put,List.setIfInBounds_toArray,List.set_cons_zero,List.set_cons_succ,y0p,y0w]
       rfl
      refine y15 (i:=6) (N:=some 33) (v:=?_) (a':=?_) #[true,true,true,false,true,true,true,false,false,false,false] rfl rfl (y0q HT_.out (by kernel_rfl)) (fun _ _ _ h=>h) (Or.inl ⟨by rfl,?_⟩) ?_ ?_;rotate_left
      ·intro w'
       go_simp
       with_reducible rfl
      rotate_left
      ·simp only [Act.put,List.setIfInBounds_toArray,List.set_cons_zero,List.set_cons_succ,y0p,y0w]
       rfl
      refine one_ (i:=3) (N:=some 30) #[true,true,true,true,true,true,true,false,false,false,false] rfl rfl (y4x HT_.out (by kernel_rfl)) (by decide) (fun K hK=>?_);refine goes_ Tra.func56 (by kernel_rfl) rfl #[.slice A23 y428.length c23] (by rfl) rfl rfl (by (try simp only [List.map_toArray,List.map_cons,List.map_nil]);first|done|rfl|(simp only [List.length_drop,List.length_take];rfl)) ?_
      with_reducible refine (slices_Clone_int_int.calls _ _ y428 t433 _ ?side1 ?side2 A13.out).mono ?_
      (case side1=>repeat (first|exact (Kd.V_reads' HO432.out).2.2|(with_reducible refine Kd.C_alloc ?_ _)|(with_reducible refine Kd.C_drewN ?_ _)|(with_reducible refine Kd.C_drew ?_)))
      (case side2=>exact (Kd.V_reads' HO432.out).2.1)
      rintro e w25 ⟨v434,rfl,ho0,hb⟩
      refine ⟨_,rfl,?_⟩;have n0_:=As0.mk (Kd.V_elder' (by (with_reducible repeat (first|apply Kd.V_alloc|apply Kd.V_drewN|apply Kd.V_drew));exact HO0.out) (Kd.R_base ho0) hb);have n1_:=As0.mk (Kd.N_elder' (by (with_reducible repeat (first|apply Kd.N_alloc|apply Kd.N_drewN|apply Kd.N_drew));exact HO426.out) (Kd.R_base ho0) hb);have n2_:=As0.mk (Kd.V_elder' (by (with_reducible repeat (first|apply Kd.V_alloc|apply Kd.V_drewN|apply Kd.V_drew));exact HO432.out) (Kd.R_base ho0) hb);have n3_:=As0.mk (Kd.V_elder' (by (with_reducible repeat (first|apply Kd.V_alloc|apply Kd.V_drewN|apply Kd.V_drew));exact HO440.out) (Kd.R_base ho0) hb);have n4_:=As0.mk (Kd.R_lower (Kd.R_newM (M:=fun k_=>(w.heap.size≤k_)) ho0 (y06 (by repeat (with_reducible first|exact HB.out|apply y01|apply y00|apply y02))) (fun k_ h_=>h_)) (y06 (by repeat (with_reducible first|exact HB.out|apply y01|apply y00|apply y02))));have n5_:=As0.mk (y04 (by repeat (with_reducible first|exact HB.out|apply y01|apply y00|apply y02)) hb);clear HO0;clear HO426;clear HO432;clear HO440;clear HB;have HO0:=n0_;have HO426:=n1_;have HO432:=n2_;have HO440:=n3_;have HO435:=n4_;have HB:=n5_;clear n0_ n1_ n2_ n3_ n4_ n5_
      (try clear hb)
      (try clear hb2)
      (try clear hk)
      (try clear hi)
      (try clear ho0)
      refine hK.out _ _ trivial (fun hHeld=>?_);clear hK K;refine ya2 (a':=?_) ?_ ?_;rotate_left
      ·show Act.put _ (some 30) _=_
       simp only [Act.put,List.setIfInBounds_toArray,List.set_cons_zero,List.set_cons_succ,y0p,y0w];rfl
      refine one_ (i:=7) (N:=some 34) #[true,true,true,true,true,true,true,true,false,false,false] rfl rfl (y4x HT_.out (by kernel_rfl)) (by decide) (fun K hK=>?_);refine Kd.R_append_rows_step (Kd.int .i64) (w0:=w) w.heap.size (by rfl) (.tmp 30) (.tmp 33) 29 3 (.int .i64 0) 8 rfl Tra.underlying29 info3 rfl (by decide) (by omega) v434 t433 y436 _ _ _ (fun k_=>(w.heap.size≤k_)) (fun _=>False) rfl rfl ?aO ?aR (fun _ _ h=>h) (fun _ h=>h.elim) ?aF ?aB ?aS ?aL ?_
      (case aR=>repeat (first|exact (Kd.V_reads' HO440.out).2.2|(with_reducible refine Kd.C_alloc ?_ _)|(with_reducible refine Kd.C_drewN ?_ _)|(with_reducible refine Kd.C_drew ?_)))
      (case aB=>exact (by repeat (with_reducible first|exact HB.out|apply y01|apply y00|apply y02)))
      (case aF=>exact (fun k_ hk=>(Nat.le_trans (y06 (by repeat (with_reducible first|exact HB.out|apply y01|apply y00|apply y02))) hk)))
      (case aO=>exact (by (with_reducible repeat (first|apply Kd.R_alloc|apply Kd.R_drewN|apply Kd.R_drew));exact Kd.R_mono HO435.out (fun _ hk=>hk.1)))
      (case aS=>exact (y06 (by repeat (with_reducible first|exact HB.out|apply y01|apply y00|apply y02))))
      (case aL=>have:=LMc16.out;omega)
      intro v442 w26 ho hb hg hat;rw [← Ny441.out] at ho;have n0_:=As0.mk (Kd.V_afterv (ok:=(fun k_=>(P0_ k_∨w.heap.size≤k_)∧some k_≠(.slice Ao20 y424.length co20:Value).ownBlock)) (by (with_reducible repeat (first|apply Kd.V_alloc|apply Kd.V_drewN|apply Kd.V_drew));exact HO0.out) hg hat);have n1_:=As0.mk (Kd.N_afterv (ok:=(fun k_=>(P0_ k_∨w.heap.size≤k_))) (by (with_reducible repeat (first|apply Kd.N_alloc|apply Kd.N_drewN|apply Kd.N_drew));exact HO426.out) hg hat);have n2_:=As0.mk (Kd.V_afterv (ok:=(fun k_=>(P0_ k_∨w.heap.size≤k_)∧some k_≠(.slice Ao20 y424.length co20:Value).ownBlock)) (by (with_reducible repeat (first|apply Kd.V_alloc|apply Kd.V_drewN|apply Kd.V_drew));exact HO432.out) hg hat);have n3_:=As0.mk (Kd.V_afterv (ok:=(fun k_=>(P0_ k_∨w.heap.size≤k_)∧some k_≠(.slice Ao20 y424.length co20:Value).ownBlock)) (by (with_reducible repeat (first|apply Kd.V_alloc|apply Kd.V_drewN|apply Kd.V_drew));exact HO440.out) hg hat);have n4_:=As0.mk (hb);have n5_:=As0.mk (ho);clear HO0;clear HO426;clear HO432;clear HO440;clear HB;clear HO435;have HO0:=n0_;have HO426:=n1_;have HO432:=n2_;have HO440:=n3_;have HB:=n4_;have HO443:=n5_;clear n0_ n1_ n2_ n3_ n4_ n5_;clear ho hb hg hat;obtain ⟨Ao27,co27,eo27⟩:=Kd.R_slice HO443.out
      (first|subst eo27|(injection eo27 with f1_ f2_ f3_;have f4_:=f1_.symm;have f5_:=f3_.symm;clear f1_ f2_ f3_;subst f4_;subst f5_))
      refine hK.out _ _ trivial (fun hHeld=>?_);clear hK K;refine ya2 (a':=?_) ?_ ?_;rotate_left
      ·show Act.put _ (some 34) _=_
       simp only [Act.put,List.setIfInBounds_toArray,List.set_cons_zero,List.set_cons_succ,y0p,y0w];rfl
      refine one_ (i:=8) (N:=some 35) #[true,true,true,true,true,true,true,true,true,false,false] rfl rfl (y4x HT_.out (by kernel_rfl)) (by decide) (fun K hK=>?_);refine goes_ Tra.func54 (by kernel_rfl) rfl #[.slice Ao27 y441.length co27] (by rfl) rfl rfl (by (try simp only [List.map_toArray,List.map_cons,List.map_nil]);first|done|rfl|(simp only [List.length_drop,List.length_take];rfl)) ?_
      with_reducible refine (mobs_number_int.calls _ _ y441 t444 _ ?side1 ?side2 A17.out).mono ?_
      (case side1=>repeat (first|exact (Kd.R_reads' HO443.out).2.2|(with_reducible refine Kd.C_alloc ?_ _)|(with_reducible refine Kd.C_drewN ?_ _)|(with_reducible refine Kd.C_drew ?_)))
      (case side2=>exact (Kd.R_reads' HO443.out).2.1)
      rintro e w28 ⟨v445,rfl,ho0,hb⟩
      refine ⟨_,rfl,?_⟩;have n0_:=As0.mk (Kd.V_elder' (by (with_reducible repeat (first|apply Kd.V_alloc|apply Kd.V_drewN|apply Kd.V_drew));exact HO0.out) (Kd.R_base ho0) hb);have n1_:=As0.mk (Kd.N_elder' (by (with_reducible repeat (first|apply Kd.N_alloc|apply Kd.N_drewN|apply Kd.N_drew));exact HO426.out) (Kd.R_base ho0) hb);have n2_:=As0.mk (Kd.V_elder' (by (with_reducible repeat (first|apply Kd.V_alloc|apply Kd.V_drewN|apply Kd.V_drew));exact HO432.out) (Kd.R_base ho0) hb);have n3_:=As0.mk (Kd.V_elder' (by (with_reducible repeat (first|apply Kd.V_alloc|apply Kd.V_drewN|apply Kd.V_drew));exact HO440.out) (Kd.R_base ho0) hb);have n4_:=As0.mk (Kd.R_elder' (by (with_reducible repeat (first|apply Kd.R_alloc|apply Kd.R_drewN|apply Kd.R_drew));exact HO443.out) (Kd.R_base ho0) hb);have n5_:=As0.mk (Kd.R_lower (Kd.R_new' (Kd.R_newM (M:=fun k_=>(w.heap.size≤k_)) ho0 (y06 (by repeat (with_reducible first|exact HB.out|apply y01|apply y00|apply y02))) (fun k_ h_=>h_)) (Kd.R_lt (by (with_reducible repeat (first|apply Kd.R_alloc|apply Kd.R_drewN|apply Kd.R_drew));exact HO443.out))) (y06 (by repeat (with_reducible first|exact HB.out|apply y01|apply y00|apply y02))));have n6_:=As0.mk (y04 (by repeat (with_reducible first|exact HB.out|apply y01|apply y00|apply y02)) hb);clear HO0;clear HO426;clear HO432;clear HO440;clear HO443;clear HB;have HO0:=n0_;have HO426:=n1_;have HO432:=n2_;have HO440:=n3_;have HO443:=n4_;have HO446:=n5_;have HB:=n6_;clear n0_ n1_ n2_ n3_ n4_ n5_ n6_
      (try clear hb)
      (try clear hb2)
      (try clear hk)
      (try clear hi)
      (try clear ho0)
      refine hK.out _ _ trivial (fun hHeld=>?_);clear hK K;refine ya2 (a':=?_) ?_ ?_;rotate_left
      ·show Act.put _ (some 35) _=_
       simp only [Act.put,List.setIfInBounds_toArray,List.set_cons_zero,List.set_cons_succ,y0p,y0w];rfl
      refine y15 (i:=9) (N:=some 4) (v:=?_) (a':=?_) #[true,true,true,true,true,true,true,true,true,true,false] rfl rfl (y0q HT_.out (by kernel_rfl)) (fun _ _ _ h=>h) (Or.inl ⟨by rfl,?_⟩) ?_ ?_;rotate_left
      ·intro w'
       go_simp
       with_reducible rfl
      rotate_left
      ·simp only [Act.put,List.setIfInBounds_toArray,List.set_cons_zero,List.set_cons_succ,y0p,y0w]
       rfl
      refine y15 (i:=10) (N:=some 5) (v:=?_) (a':=?_) #[true,true,true,true,true,true,true,true,true,true,true] rfl rfl (y0q HT_.out (by kernel_rfl)) (fun _ _ _ h=>h) (Or.inl ⟨by rfl,?_⟩) ?_ ?_;rotate_left
      ·intro w'
       go_simp
       with_reducible rfl
      rotate_left
      ·simp only [Act.put,List.setIfInBounds_toArray,List.set_cons_zero,List.set_cons_succ,y0p,y0w]
       rfl
      refine yjd (y81 HT_.out (by kernel_rfl)) ?_
      try go_wp2
      go_ret2
      exact ⟨_,by first|rfl|(simp [y08,y07]<;>rfl)|(simp only [← hji10];first|rfl|(simp [y08,y07]<;>rfl))|(simp [*,y08,y07]<;>rfl),by (with_reducible repeat (first|apply Kd.R_alloc|apply Kd.R_drewN|apply Kd.R_drew));exact Kd.R_mono HO446.out (fun _ hk=>hk.1.1),by repeat (with_reducible first|exact HB.out|apply y01|apply y00|apply y02)⟩
     ·rw [if_neg c16] at H
      exact absurd H (by simp)
    ·rw [if_neg c12] at H
     exact absurd H (by simp)
   ·rw [if_neg c11] at H
    exact absurd H (by simp)
 ·rw [if_neg c4] at H
  have c4b0:(t427 == 0)=false:=beq_eq_false_iff_ne.mpr c4;have c4b1:(t427 != 0)=true:=bne_iff_ne.mpr c4;simp only [Option.some.injEq,Prod.mk.injEq] at H;obtain ⟨rfl,rfl⟩:=H;go_enter Tra.func28,Tra.ntmps28
  go_wp2_with (first|((with_reducible refine y0n (N:=9) rfl ?_);refine Kd.N_lit (Kd.slice 3 (Kd.int .i64)) _ 29 ?hg (N':=9) ?hd (xs:=([l0]:List (List Int))) (inner:=[.slice A0 l0.length c0]) (ok:=(fun k_=>(P0_ k_∨w.heap.size≤k_))) (okp:=(fun k_=>(P0_ k_∨w.heap.size≤k_))) ?hr ?hp (fun _ hk=>hk) ((show ∀ k_,w.heap.size≤k_->(fun k_=>(P0_ k_∨w.heap.size≤k_)) k_ from fun k_ hk=>(.inr (Nat.le_trans (y06 (by repeat (with_reducible first|exact HB.out|apply y01|apply y00|apply y02))) hk))) _ (zLe _)) (Below.refl _ _) (zLe _) (by simp) ?_;(case hd=>rfl);(case hg=>rfl);(case hr=>first|(go_simp;done)|(go_simp;rfl));(case hp=>exact (Reps.one (show Kd.FK (Kd.slice 3 (Kd.int .i64)) _ _ l0 [.slice A0 l0.length c0] from (Kd.FK_slice_mk (Kd.V_reads' (Kd.V_mono (ok':=(fun k_=>(P0_ k_∨w.heap.size≤k_))) (HO0.out) (fun k_ hk=>hk))).2.1 (Kd.V_F (Kd.V_mono (ok':=(fun k_=>(P0_ k_∨w.heap.size≤k_))) (HO0.out) (fun k_ hk=>hk))))) (Reps.none _ _)));intro v425 w29 ho30 hb hg_ hnew_;clear hg_ hnew_;(first|rw [← Ny424.out] at ho30|(simp only [Int.reduceToNat] at ho30;rw [← Ny424.out] at ho30));have n0_:=As0.mk (Kd.V_elder' (by (with_reducible repeat (first|apply Kd.V_alloc|apply Kd.V_drewN|apply Kd.V_drew));exact HO0.out) (Kd.N_base ho30) hb);have n1_:=As0.mk (Kd.N_lower ho30 (y06 (by repeat (with_reducible first|exact HB.out|apply y01|apply y00|apply y02))));have n2_:=As0.mk (y04 (by repeat (with_reducible first|exact HB.out|apply y01|apply y00|apply y02)) hb);clear HO0;clear HB;have HO0:=n0_;have HO426:=n1_;have HB:=n2_;clear n0_ n1_ n2_;clear hb ho30;obtain ⟨Ao31,co31,eo31⟩:=Kd.N_slice HO426.out;subst eo31)|((with_reducible refine y0a (f:=49) rfl ?_);refine y0k (some 10) rfl rfl Tra.func49 (by kernel_rfl) rfl #[.slice Ao31 y424.length co31] rfl (by (try simp only [List.map_toArray,List.map_cons,List.map_nil]);first|done|rfl|(simp only [List.length_drop,List.length_take];rfl)) ?_;(with_reducible refine (mobs_read.calls k _ _ y424 t427 _ ?side1 ?side2 A3.out).mono ?_);(case side1=>repeat (first|exact (Kd.N_reads' HO426.out).2.2|(with_reducible refine Kd.C_alloc ?_ _)|(with_reducible refine Kd.C_drewN ?_ _)|(with_reducible refine Kd.C_drew ?_)));(case side2=>exact (Kd.N_reads' HO426.out).2.1);rintro e w32 ⟨rfl,hb⟩;refine ⟨_,rfl,?_⟩;have n0_:=As0.mk (Kd.V_below (by (with_reducible repeat (first|apply Kd.V_alloc|apply Kd.V_drewN|apply Kd.V_drew));exact HO0.out) hb);have n1_:=As0.mk (Kd.N_below (by (with_reducible repeat (first|apply Kd.N_alloc|apply Kd.N_drewN|apply Kd.N_drew));exact HO426.out) hb);have n2_:=As0.mk (y04 (by repeat (with_reducible first|exact HB.out|apply y01|apply y00|apply y02)) hb);clear HO0;clear HO426;clear HB;have HO0:=n0_;have HO426:=n1_;have HB:=n2_;clear n0_ n1_ n2_;(try clear hb);(try clear hb2);(try clear hk);(try clear hi)))
  go_ret2
  exact ⟨_,by first|rfl|(simp [y08,y07]<;>rfl)|(simp [*,y08,y07]<;>rfl),by first|exact Kd.R_nil _ _ _ _ _|exact Kd.N_nil _ _ _ _ _|exact Kd.V_nil _ _ _ _ _|exact Kd.Q_nil _ _ _ _ _|exact Kd.S_nil _ _ _ _ _,by repeat (with_reducible first|exact HB.out|apply y01|apply y00|apply y02)⟩
end Go.Proofs.Ytdhgeondbnpeoaa.P
namespace Go.Proofs.Ytdhgeondbnpeoaa.P
open Go.RowKit Go.Proofs.Yw.Wd Go.Proofs.Yw.La Go.Proofs.Yw.Mo
attribute [local go_sem] y13 y11 y1c y1b y0v y0u y12 y10
mutual
def w6_MobsKreweras.j0:Nat->List Int->Bool->Option (Bool)
 |0,_,_=>none
 |k+1,x0,x18=>if x18=true then ((w6_alive.f).bind fun t507=>(some t507)) else ((mobs_Crossed.f k x0).bind fun bt508=>((mobs_Between.f k x0).bind fun bt515=>(if bt508.2.2.2.2.2=0 then (if ((bt515.2 == 0) == bt508.2.2.2.2.1)=true then (w6_MobsKreweras.j1 k x0 bt508.2.2.2.2.1 bt515.1 true) else (if bt515.2=0 then (w6_MobsKreweras.j1 k x0 bt508.2.2.2.2.1 bt515.1 false) else (w6_MobsKreweras.j1 k x0 bt508.2.2.2.2.1 bt515.1 (bt515.2 != 9)))) else (w6_MobsKreweras.j1 k x0 bt508.2.2.2.2.1 bt515.1 true))))
def w6_MobsKreweras.j1:Nat->List Int->Bool->List Int->Bool->Option (Bool)
 |0,_,_,_,_=>none
 |k+1,x0,x4,x6,x46=>if x46=true then (some false) else (if x4=true then (if (x6.length:Int)=0 then ((w6_alive.f).bind fun t519=>(some t519)) else (some false)) else ((r6_IsParting.f k x6).bind fun t520=>(if t520=true then (w6_MobsKreweras.j2 k x0 x6 ((x6.length:Int) != (x0.length:Int))) else (w6_MobsKreweras.j2 k x0 x6 true))))
def w6_MobsKreweras.j2:Nat->List Int->List Int->Bool->Option (Bool)
 |0,_,_,_=>none
 |k+1,x0,x6,x63=>if x63=true then (some false) else ((mobs_Crossed.f k x6).bind fun bt521=>((mobs_Between.f k x6).bind fun bt527=>((mobs_Around.f k x0 1).bind fun bt531=>(if bt521.2.2.2.2.2=0 then (if bt527.2=0 then (if bt531.2=0 then (if bt521.2.2.2.2.1=true then (some false) else ((w6_same.f k bt527.1 bt531.1).bind fun t535=>(if t535=true then (if (x0.length:Int)=0 then ((w6_alive.f).bind fun t536=>(some t536)) else ((r6_Many.f k x0).bind fun t537=>((r6_Many.f k x6).bind fun t538=>(if (wrap64 (t537+t538))=(wrap64 ((x0.length:Int)+1)) then ((w6_alive.f).bind fun t539=>(some t539)) else (some false))))) else (some false)))) else (some false)) else (some false)) else (some false)))))
end
def w6_MobsKreweras.f (k:Nat) (l0:List Int):Option (Bool):=(w6_few.f l0 ([]:List Int)).bind fun t505=>(if t505=true then ((r6_IsParting.f k l0).bind fun t506=>(w6_MobsKreweras.j0 k l0 (!t506))) else (w6_MobsKreweras.j0 k l0 true))
theorem w6_MobsKreweras.calls (k:Nat) (A0:Option Addr) (c0:Nat) (l0:List Int) (r:Bool) (w:World) (hr0:Kd.C (Kd.int .i64) w A0 l0.length l0) (hc0:l0.length≤c0) (h:w6_MobsKreweras.f k l0=some r) :
  Calls Tra.prog 6 #[.slice A0 l0.length c0] w fun e w'=>e=.returned (.bool r)∧Below w.heap.size w w':=by
 have hu31:=Tra.underlying31;have HR0:=As0.mk hr0;have HC0:=As0.mk hc0;clear hr0 hc0;have HB:=As0.mk (Below.refl w.heap.size w);have H:((w6_few.f l0 ([]:List Int)).bind fun t505=>(if t505=true then ((r6_IsParting.f k l0).bind fun t506=>(w6_MobsKreweras.j0 k l0 (!t506))) else (w6_MobsKreweras.j0 k l0 true)))=some r:=h;clear h;have HC2:=As0.mk H;clear H;go_enter Tra.func6,Tra.ntmps6
 go_upto_region 1 with (fail)
 go_cut [18] (fun v18 wc=>∃ (kq:Nat) (x18_1:Bool),v18=.bool x18_1∧As0 (w6_MobsKreweras.j0 kq l0 x18_1=some r)∧As0 (kq≤k)∧As0 (Below w.heap.size w wc))
 case first =>
  have H:=HC2.out;clear HC2;replace H:=Option.bind_eq_some_iff.mp H;obtain ⟨t505,A30,H⟩:=H;replace H:(if t505=true then ((r6_IsParting.f k l0).bind fun t506=>(w6_MobsKreweras.j0 k l0 (!t506))) else (w6_MobsKreweras.j0 k l0 true))=some r:=H;have A3:=As0.mk A30;clear A30
  by_cases c4:t505=true
  ·subst c4
   have H1:((r6_IsParting.f k l0).bind fun t506=>(w6_MobsKreweras.j0 k l0 (!t506)))=some r:=by rw [if_pos rfl] at H;exact H
   clear H;have H:=H1;clear H1;replace H:=Option.bind_eq_some_iff.mp H;obtain ⟨t506,A50,H⟩:=H;replace H:(w6_MobsKreweras.j0 k l0 (!t506))=some r:=H;have A5:=As0.mk A50;clear A50;have H':=As0.mk H;clear H;go_wp2_with (first|((with_reducible refine y0a (f:=22) rfl ?_);refine y0k (some 12) rfl rfl Tra.func22 (by kernel_rfl) rfl #[.slice A0 l0.length c0,.slice none 0 0] rfl (by (try simp only [List.map_toArray,List.map_cons,List.map_nil]);first|done|rfl|(simp only [List.length_drop,List.length_take];rfl)) ?_;(refine (w6_few.calls _ _ l0 _ _ ([]:List Int) true _ ?side1 ?side2 ?side3 ?side4 A3.out).mono ?_);(case side1=>repeat (first|exact (Kd.C_below HR0.out HB.out)|(with_reducible refine Kd.C_alloc ?_ _)|(with_reducible refine Kd.C_drewN ?_ _)|(with_reducible refine Kd.C_drew ?_)));(case side2=>exact HC0.out);(case side3=>exact Kd.C_nil _ _);(case side4=>exact zLe _);rintro e w' ⟨rfl,⟨nd,rfl⟩⟩;refine ⟨_,rfl,?_⟩)|(go_at_call 30;(with_reducible refine (r6_IsParting.calls k _ _ l0 t506 _ ?side1 ?side2 A5.out).mono ?_);(case side1=>repeat (first|exact (Kd.C_below HR0.out (by repeat (with_reducible first|exact HB.out|apply y01|apply y00|apply y02)))|(with_reducible refine Kd.C_alloc ?_ _)|(with_reducible refine Kd.C_drewN ?_ _)|(with_reducible refine Kd.C_drew ?_)));(case side2=>exact HC0.out);rintro e w' ⟨rfl,⟨nd,rfl⟩⟩))
   go_meet
   case rel=>exact ⟨_,(!t506),(by first|rfl|(simp;done)|(simp [*];done)),H',⟨by first|omega|exact zLe _⟩,⟨by repeat (with_reducible first|exact HB.out|apply y01|apply y00|apply y02)⟩⟩
  ·replace c4:=Bool.eq_false_iff.mpr c4
   subst c4;have H1:(w6_MobsKreweras.j0 k l0 true)=some r:=by rw [if_neg (show ¬ (false=true) by decide)] at H;exact H
   clear H;have H:=H1;clear H1;have H':=As0.mk H;clear H;go_wp2_with (first|((with_reducible refine y0a (f:=22) rfl ?_);refine y0k (some 12) rfl rfl Tra.func22 (by kernel_rfl) rfl #[.slice A0 l0.length c0,.slice none 0 0] rfl (by (try simp only [List.map_toArray,List.map_cons,List.map_nil]);first|done|rfl|(simp only [List.length_drop,List.length_take];rfl)) ?_;(refine (w6_few.calls _ _ l0 _ _ ([]:List Int) false _ ?side1 ?side2 ?side3 ?side4 A3.out).mono ?_);(case side1=>repeat (first|exact (Kd.C_below HR0.out HB.out)|(with_reducible refine Kd.C_alloc ?_ _)|(with_reducible refine Kd.C_drewN ?_ _)|(with_reducible refine Kd.C_drew ?_)));(case side2=>exact HC0.out);(case side3=>exact Kd.C_nil _ _);(case side4=>exact zLe _);rintro e w' ⟨rfl,⟨nd,rfl⟩⟩;refine ⟨_,rfl,?_⟩))
   go_meet
   case rel=>exact ⟨_,(true),(by first|rfl|(simp;done)|(simp [*];done)),H',⟨by first|omega|exact zLe _⟩,⟨by repeat (with_reducible first|exact HB.out|apply y01|apply y00|apply y02)⟩⟩
 case rest =>
  clear HC2
  try clear c2
  try clear p2
  try clear c4
  obtain ⟨kq,x18_1,rfl,HA,HJ1,HB⟩:=hcut;cases kq with
  |zero=>exact absurd HA.out (by simp [w6_MobsKreweras.j0])
  |succ kj1 =>
   have H:=HA.out;clear HA;simp only [w6_MobsKreweras.j0] at H
   by_cases c6:x18_1=true
   ·subst c6
    have H1:((w6_alive.f).bind fun t507=>(some t507))=some r:=by rw [if_pos rfl] at H;exact H
    clear H;have H:=H1;clear H1;replace H:=Option.bind_eq_some_iff.mp H;obtain ⟨t507,A70,H⟩:=H;replace H:(some t507)=some r:=H;have A7:=As0.mk A70;clear A70;obtain rfl:=zSi H;go_wp2_with (first|((with_reducible refine y0a (f:=20) rfl ?_);refine y0k (some 19) rfl rfl Tra.func20 (by kernel_rfl) rfl #[] rfl (by (try simp only [List.map_toArray,List.map_cons,List.map_nil]);first|done|rfl|(simp only [List.length_drop,List.length_take];rfl)) ?_;(with_reducible refine (w6_alive.calls  t507 _ A7.out).mono ?_);rintro e w8 ⟨rfl,hb⟩;refine ⟨_,rfl,?_⟩;have n0_:=As0.mk (y04 (by repeat (with_reducible first|exact HB.out|apply y01|apply y00|apply y02)) hb);clear HB;have HB:=n0_;clear n0_;(try clear hb);(try clear hb2);(try clear hk);(try clear hi)))
    go_ret
    exact ⟨by first|rfl|(simp [y08,y07]<;>rfl)|(simp [*,y08,y07]<;>rfl),by repeat (with_reducible first|exact HB.out|apply y01|apply y00|apply y02)⟩
   ·replace c6:=Bool.eq_false_iff.mpr c6
    subst c6;have H1:((mobs_Crossed.f kj1 l0).bind fun bt508=>((mobs_Between.f kj1 l0).bind fun bt515=>(if bt508.2.2.2.2.2=0 then (if ((bt515.2 == 0) == bt508.2.2.2.2.1)=true then (w6_MobsKreweras.j1 kj1 l0 bt508.2.2.2.2.1 bt515.1 true) else (if bt515.2=0 then (w6_MobsKreweras.j1 kj1 l0 bt508.2.2.2.2.1 bt515.1 false) else (w6_MobsKreweras.j1 kj1 l0 bt508.2.2.2.2.1 bt515.1 (bt515.2 != 9)))) else (w6_MobsKreweras.j1 kj1 l0 bt508.2.2.2.2.1 bt515.1 true))))=some r:=by rw [if_neg (show ¬ (false=true) by decide)] at H;exact H
    clear H;have H:=H1;clear H1;replace H:=Option.bind_eq_some_iff.mp H;obtain ⟨⟨t508,t509,t510,t511,t512,t513⟩,A90,H⟩:=H;replace H:((mobs_Between.f kj1 l0).bind fun bt515=>(if t513=0 then (if ((bt515.2 == 0) == t512)=true then (w6_MobsKreweras.j1 kj1 l0 t512 bt515.1 true) else (if bt515.2=0 then (w6_MobsKreweras.j1 kj1 l0 t512 bt515.1 false) else (w6_MobsKreweras.j1 kj1 l0 t512 bt515.1 (bt515.2 != 9)))) else (w6_MobsKreweras.j1 kj1 l0 t512 bt515.1 true)))=some r:=H;have A9:=As0.mk A90;clear A90;replace H:=Option.bind_eq_some_iff.mp H;obtain ⟨⟨t515,t518⟩,A100,H⟩:=H;replace H:(if t513=0 then (if ((t518 == 0) == t512)=true then (w6_MobsKreweras.j1 kj1 l0 t512 t515 true) else (if t518=0 then (w6_MobsKreweras.j1 kj1 l0 t512 t515 false) else (w6_MobsKreweras.j1 kj1 l0 t512 t515 (t518 != 9)))) else (w6_MobsKreweras.j1 kj1 l0 t512 t515 true))=some r:=H;have A10:=As0.mk A100;clear A100;have HC11:=As0.mk H;clear H;go_upto_region 5 with (first|((with_reducible refine y0a (f:=23) rfl ?_);refine y0k (some 22) rfl rfl Tra.func23 (by kernel_rfl) rfl #[.slice A0 l0.length c0] rfl (by (try simp only [List.map_toArray,List.map_cons,List.map_nil]);first|done|rfl|(simp only [List.length_drop,List.length_take];rfl)) ?_;(with_reducible refine (mobs_Crossed.calls kj1 (fun k_=>k_<w.heap.size) _ _ l0 t508 t509 t510 t511 t512 t513 _ ?side1 A9.out).mono ?_);(case side1=>exact Kd.V_mk HC0.out (Kd.F_below (Kd.C_F (Kd.heap_int .i64) HR0.out) (by repeat (with_reducible first|exact HB.out|apply y01|apply y00|apply y02))));rintro e w12 ⟨rfl,hb⟩;refine ⟨_,rfl,?_⟩;have n0_:=As0.mk (y04 (by repeat (with_reducible first|exact HB.out|apply y01|apply y00|apply y02)) hb);clear HB;have HB:=n0_;clear n0_;(try clear hb);(try clear hb2);(try clear hk);(try clear hi))|((with_reducible refine y0n (N:=3) rfl ?_);(try (refine yc3 (by rfl) ?_;dsimp only));refine y1f ?hg (N:=3) ?hd (cs:=#[.int .i64 0,.int .i64 0,.int .i64 0,.int .i64 0]) (t:=31) ?hr ?_;(case hd=>rfl);(case hg=>rfl);(case hr=>first|(go_simp;done)|(go_simp;rfl));intro gb514 hg w13 hbox hb;have n0_:=As0.mk (y04 (by repeat (with_reducible first|exact HB.out|apply y01|apply y00|apply y02)) hb);have n1_:=As0.mk (hbox);have n2_:=As0.mk ((by rw [hg];exact (y06 (by repeat (with_reducible first|exact HB.out|apply y01|apply y00|apply y02))):w.heap.size≤gb514));have n3_:=As0.mk ((by rw [hg];exact (y06 (by repeat (with_reducible first|exact HB.out|apply y01|apply y00|apply y02))):w.heap.size≤gb514));clear HB;have HB:=n0_;have BK514:=n1_;have GW514:=n2_;have GE514:=n3_;clear n0_ n1_ n2_ n3_;clear hb hbox hg;have hcz14_0:w13.cell? ⟨gb514,0,none⟩=some (.int .i64 0):=(y0g BK514.out 0).trans rfl;have hcz14_1:w13.cell? ⟨gb514,1,none⟩=some (.int .i64 0):=(y0g BK514.out 1).trans rfl;have hcz14_2:w13.cell? ⟨gb514,2,none⟩=some (.int .i64 0):=(y0g BK514.out 2).trans rfl;have hcz14_3:w13.cell? ⟨gb514,3,none⟩=some (.int .i64 0):=(y0g BK514.out 3).trans rfl;have hfz14_0:=y0e BK514.out 0;have hfz14_1:=y0e BK514.out 1;have hfz14_2:=y0e BK514.out 2;have hfz14_3:=y0e BK514.out 3)|((with_reducible refine y3h (t:=31) (p:=3) rfl ?_);refine y2w (t:=31) (p:=3) (v:=?vo_w15) (w1:=((((w13.setCell ⟨gb514,0,none⟩ (.int .i64 t508)).setCell ⟨gb514,1,none⟩ (.int .i64 t509)).setCell ⟨gb514,2,none⟩ (.int .i64 t510)).setCell ⟨gb514,3,none⟩ (.int .i64 t511))) ?hg ?ho ?hn ?hr ?_;(case ho=>rfl);(case hg=>rfl);(case hn=>rfl);(case hr=>first|(go_simp;done)|(go_simp;rfl));intro w15 hw;have n0_:As0 (w15.heap[gb514]?=some (.cells #[.int .i64 t508,.int .i64 t509,.int .i64 t510,.int .i64 t511] 31 (0,0))):=⟨(by rw [hw];exact (by (with_reducible repeat (first|refine y05 ?_ _|refine blk_drew ?_|refine blk_alloc ?_ _));refine y0s (cs:=#[.int .i64 t508,.int .i64 t509,.int .i64 t510,.int .i64 0]) ?_ 3 _ rfl;(with_reducible repeat (first|refine y05 ?_ _|refine blk_drew ?_|refine blk_alloc ?_ _));refine y0s (cs:=#[.int .i64 t508,.int .i64 t509,.int .i64 0,.int .i64 0]) ?_ 2 _ rfl;(with_reducible repeat (first|refine y05 ?_ _|refine blk_drew ?_|refine blk_alloc ?_ _));refine y0s (cs:=#[.int .i64 t508,.int .i64 0,.int .i64 0,.int .i64 0]) ?_ 1 _ rfl;(with_reducible repeat (first|refine y05 ?_ _|refine blk_drew ?_|refine blk_alloc ?_ _));refine y0s (cs:=#[.int .i64 0,.int .i64 0,.int .i64 0,.int .i64 0]) ?_ 0 _ rfl;(with_reducible repeat (first|refine y05 ?_ _|refine blk_drew ?_|refine blk_alloc ?_ _));exact BK514.out))⟩;have n1_:As0 (Below w.heap.size w w15):=⟨(by rw [hw];exact (by repeat (with_reducible first|exact HB.out|apply y01|apply y00|apply y02|refine y03 ?_ GE514.out)))⟩;clear hw;clear BK514;clear HB;have BK514:=n0_;have HB:=n1_;clear n0_ n1_)|((with_reducible refine y0a (f:=25) rfl ?_);refine y0k (some 28) rfl rfl Tra.func25 (by kernel_rfl) rfl #[.slice A0 l0.length c0] rfl (by (try simp only [List.map_toArray,List.map_cons,List.map_nil]);first|done|rfl|(simp only [List.length_drop,List.length_take];rfl)) ?_;(with_reducible refine (mobs_Between.calls kj1 (fun k_=>k_<w.heap.size) _ _ l0 t515 t518 _ ?side1 A10.out).mono ?_);(case side1=>exact Kd.V_mk HC0.out (Kd.F_below (Kd.C_F (Kd.heap_int .i64) HR0.out) (by repeat (with_reducible first|exact HB.out|apply y01|apply y00|apply y02|refine y03 ?_ GE514.out))));rintro e w16 ⟨v516,rfl,ho0,hb⟩;refine ⟨_,rfl,?_⟩;have n0_:=As0.mk (Kd.R_lower (Kd.R_mono (ok':=fun k_=>True) ho0 (fun _ hk_=>trivial)) (y06 (by repeat (with_reducible first|exact HB.out|apply y01|apply y00|apply y02|refine y03 ?_ GE514.out))));have n1_:=As0.mk (y0f (g:=gb514) (o:=.cells #[.int .i64 t508,.int .i64 t509,.int .i64 t510,.int .i64 t511] 31 (0,0)) (by (with_reducible repeat (first|refine y05 ?_ _|refine blk_drew ?_|refine blk_alloc ?_ _));exact BK514.out) hb);have n2_:=As0.mk (y04 (by repeat (with_reducible first|exact HB.out|apply y01|apply y00|apply y02|refine y03 ?_ GE514.out)) hb);clear BK514;clear HB;have HO517:=n0_;have BK514:=n1_;have HB:=n2_;clear n0_ n1_ n2_;(try clear hb);(try clear hb2);(try clear hk);(try clear hi);(try clear ho0)))
    (try simp only [Act.put,List.setIfInBounds_toArray,List.set_cons_zero,List.set_cons_succ])
    go_cut [46] (fun v46 wc=>∃ (kq:Nat) (x46_10:Bool),v46=.bool x46_10∧As0 (w6_MobsKreweras.j1 kq l0 t512 t515 x46_10=some r)∧As0 (kq≤kj1)∧As0 (Kd.R (Kd.int .i64) 3 wc w.heap.size (fun _=>True) v516 t515)∧As0 (wc.heap[gb514]?=some (.cells #[.int .i64 t508,.int .i64 t509,.int .i64 t510,.int .i64 t511] 31 (0,0)))∧As0 (Below w.heap.size w wc))
    case first =>
     have H:=HC11.out;clear HC11
     by_cases c17:t513=0
     ·rw [if_pos c17] at H
      have c17b0:(t513 == 0)=true:=beq_iff_eq.mpr c17;have c17b1:(t513 != 0)=false:=bne_eq_false_iff_eq.mpr c17;clear c17
      (first|rw [c17b0]|(simp only [y0p,y0w];rw [c17b0])|skip)
      by_cases c18:((t518 == 0) == t512)=true
      ·rw [if_pos c18] at H
       have c18b0:((t518 == 0) == t512)=true:=c18
       (try (have c18b1:decide ((t518 == 0)=t512)=true:=by simpa using c18))
       (try (have c18b2:((t518 == 0) == t512)=true:=by simpa using c18))
       clear c18;have H':=As0.mk H;clear H;go_wp2
       go_meet
       case rel=>exact ⟨_,(true),(by first|rfl|(simp;done)|(simp [*];done)),H',⟨by have:=HJ1.out;first|omega|exact zLe _⟩,⟨by (with_reducible repeat (first|apply Kd.R_alloc|apply Kd.R_drewN|apply Kd.R_drew));exact HO517.out⟩,⟨by (with_reducible repeat (first|refine y05 ?_ _|refine blk_drew ?_|refine blk_alloc ?_ _));exact BK514.out⟩,⟨by repeat (with_reducible first|exact HB.out|apply y01|apply y00|apply y02|refine y03 ?_ GE514.out)⟩⟩
      ·rw [if_neg c18] at H
       have c18b0:((t518 == 0) == t512)=false:=by simpa using c18
       (try (have c18b1:decide ((t518 == 0)=t512)=false:=by simpa using c18))
       (try (have c18b2:((t518 == 0) == t512)=false:=by simpa using c18))
       (try (have c18b3:¬ ((t518 == 0)=t512):=by simpa using c18))
       clear c18
       by_cases c19:t518=0
       ·rw [if_pos c19] at H
        have c19b0:(t518 == 0)=true:=beq_iff_eq.mpr c19;have c19b1:(t518 != 0)=false:=bne_eq_false_iff_eq.mpr c19;clear c19;have ht:t512=false:=by
         cases t512
         ·rfl
         ·rw [c19b0] at c18b0
          exact absurd c18b0 (by decide)
        subst ht;have H':=As0.mk H;clear H;go_wp2
        go_meet
        case rel=>exact ⟨_,(false),(by first|rfl|(simp;done)|(simp [*];done)),H',⟨by have:=HJ1.out;first|omega|exact zLe _⟩,⟨by (with_reducible repeat (first|apply Kd.R_alloc|apply Kd.R_drewN|apply Kd.R_drew));exact HO517.out⟩,⟨by (with_reducible repeat (first|refine y05 ?_ _|refine blk_drew ?_|refine blk_alloc ?_ _));exact BK514.out⟩,⟨by repeat (with_reducible first|exact HB.out|apply y01|apply y00|apply y02|refine y03 ?_ GE514.out)⟩⟩
       ·rw [if_neg c19] at H
        have c19b0:(t518 == 0)=false:=beq_eq_false_iff_ne.mpr c19;have c19b1:(t518 != 0)=true:=bne_iff_ne.mpr c19;have ht:t512=true:=by
         cases t512
         ·rw [c19b0] at c18b0
          exact absurd c18b0 (by decide)
         ·rfl
        subst ht;have H':=As0.mk H;clear H;go_wp2
        go_meet
        case rel=>exact ⟨_,((t518 != 9)),(by first|rfl|(simp;done)|(simp [*];done)),H',⟨by have:=HJ1.out;first|omega|exact zLe _⟩,⟨by (with_reducible repeat (first|apply Kd.R_alloc|apply Kd.R_drewN|apply Kd.R_drew));exact HO517.out⟩,⟨by (with_reducible repeat (first|refine y05 ?_ _|refine blk_drew ?_|refine blk_alloc ?_ _));exact BK514.out⟩,⟨by repeat (with_reducible first|exact HB.out|apply y01|apply y00|apply y02|refine y03 ?_ GE514.out)⟩⟩
     ·rw [if_neg c17] at H
      have c17b0:(t513 == 0)=false:=beq_eq_false_iff_ne.mpr c17;have c17b1:(t513 != 0)=true:=bne_iff_ne.mpr c17
      (first|rw [c17b0]|(simp only [y0p,y0w];rw [c17b0])|skip)
      have H':=As0.mk H;clear H;go_wp2
      go_meet
      case rel=>exact ⟨_,(true),(by first|rfl|(simp;done)|(simp [*];done)),H',⟨by have:=HJ1.out;first|omega|exact zLe _⟩,⟨by (with_reducible repeat (first|apply Kd.R_alloc|apply Kd.R_drewN|apply Kd.R_drew));exact HO517.out⟩,⟨by (with_reducible repeat (first|refine y05 ?_ _|refine blk_drew ?_|refine blk_alloc ?_ _));exact BK514.out⟩,⟨by repeat (with_reducible first|exact HB.out|apply y01|apply y00|apply y02|refine y03 ?_ GE514.out)⟩⟩
    case rest =>
     clear HC11
     try clear c1
     try clear c2
     try clear p2
     try clear c4
     try clear c6
     try clear c17
     try clear c17b0
     try clear c17b1
     try clear c18
     try clear c18b0
     try clear c18b1
     try clear c18b2
     try clear c19
     try clear c19b0
     try clear c19b1
     try clear hcz14_0
     try clear hcz14_1
     try clear hcz14_2
     try clear hcz14_3
     try clear hfz14_0
     try clear hfz14_1
     try clear hfz14_2
     try clear hfz14_3
     try clear p2
     obtain ⟨kq,x46_10,rfl,HA,HJ10,HO_6,BK514,HB⟩:=hcut;cases kq with
     |zero=>exact absurd HA.out (by simp [w6_MobsKreweras.j1])
     |succ kj10 =>
      have H:=HA.out;clear HA;simp only [w6_MobsKreweras.j1] at H
      by_cases c20:x46_10=true
      ·subst c20
       have H1:(some false)=some r:=by rw [if_pos rfl] at H;exact H
       clear H;have H:=H1;clear H1;obtain rfl:=zSi H;go_wp2
       go_ret
       exact ⟨by first|rfl|(simp [y08,y07]<;>rfl)|(simp [*,y08,y07]<;>rfl),by repeat (with_reducible first|exact HB.out|apply y01|apply y00|apply y02|refine y03 ?_ GE514.out)⟩
      ·replace c20:=Bool.eq_false_iff.mpr c20
       subst c20;have H1:(if t512=true then (if (t515.length:Int)=0 then ((w6_alive.f).bind fun t519=>(some t519)) else (some false)) else ((r6_IsParting.f kj10 t515).bind fun t520=>(if t520=true then (w6_MobsKreweras.j2 kj10 l0 t515 ((t515.length:Int) != (l0.length:Int))) else (w6_MobsKreweras.j2 kj10 l0 t515 true))))=some r:=by rw [if_neg (show ¬ (false=true) by decide)] at H;exact H
       clear H;have H:=H1;clear H1
       by_cases c21:t512=true
       ·subst c21
        have H1:(if (t515.length:Int)=0 then ((w6_alive.f).bind fun t519=>(some t519)) else (some false))=some r:=by rw [if_pos rfl] at H;exact H
        clear H;have H:=H1;clear H1
        by_cases c22:(t515.length:Int)=0
        ·rw [if_pos c22] at H
         have c22b0:((t515.length:Int) == 0)=true:=beq_iff_eq.mpr c22;have c22b1:((t515.length:Int) != 0)=false:=bne_eq_false_iff_eq.mpr c22;clear c22;replace H:=Option.bind_eq_some_iff.mp H;obtain ⟨t519,A230,H⟩:=H;replace H:(some t519)=some r:=H;have A23:=As0.mk A230;clear A230;obtain rfl:=zSi H;obtain ⟨Ao24,co24,eo24⟩:=Kd.R_slice HO_6.out;subst eo24;go_wp2_with (first|(go_at_call 20;(with_reducible refine (w6_alive.calls  t519 _ A23.out).mono ?_);rintro e w25 ⟨rfl,hb⟩;have n0_:=As0.mk (Kd.R_below (by (with_reducible repeat (first|apply Kd.R_alloc|apply Kd.R_drewN|apply Kd.R_drew));exact HO_6.out) hb);have n1_:=As0.mk (y0f (g:=gb514) (o:=.cells #[.int .i64 t508,.int .i64 t509,.int .i64 t510,.int .i64 t511] 31 (0,0)) (by (with_reducible repeat (first|refine y05 ?_ _|refine blk_drew ?_|refine blk_alloc ?_ _));exact BK514.out) hb);have n2_:=As0.mk (y04 (by repeat (with_reducible first|exact HB.out|apply y01|apply y00|apply y02|refine y03 ?_ GE514.out)) hb);clear HO_6;clear BK514;clear HB;have HO_6:=n0_;have BK514:=n1_;have HB:=n2_;clear n0_ n1_ n2_;(try clear hb);(try clear hb2);(try clear hk);(try clear hi)))
         go_ret
         exact ⟨by first|rfl|(simp [y08,y07]<;>rfl)|(simp [*,y08,y07]<;>rfl),by repeat (with_reducible first|exact HB.out|apply y01|apply y00|apply y02|refine y03 ?_ GE514.out)⟩
        ·rw [if_neg c22] at H
         have c22b0:((t515.length:Int) == 0)=false:=beq_eq_false_iff_ne.mpr c22;have c22b1:((t515.length:Int) != 0)=true:=bne_iff_ne.mpr c22;have c22b2:¬ (t515=[]):=fun h_=>c22 (by rw [h_];rfl)
         obtain rfl:=zSi H;obtain ⟨Ao26,co26,eo26⟩:=Kd.R_slice HO_6.out;subst eo26;go_wp2
         go_ret
         exact ⟨by first|rfl|(simp [y08,y07]<;>rfl)|(simp [*,y08,y07]<;>rfl),by repeat (with_reducible first|exact HB.out|apply y01|apply y00|apply y02|refine y03 ?_ GE514.out)⟩
       ·replace c21:=Bool.eq_false_iff.mpr c21
        subst c21;have H1:((r6_IsParting.f kj10 t515).bind fun t520=>(if t520=true then (w6_MobsKreweras.j2 kj10 l0 t515 ((t515.length:Int) != (l0.length:Int))) else (w6_MobsKreweras.j2 kj10 l0 t515 true)))=some r:=by rw [if_neg (show ¬ (false=true) by decide)] at H;exact H
        clear H;have H:=H1;clear H1;have HC27:=As0.mk H;clear H;go_upto_region 9 with (fail)
        go_cut [63] (fun v63 wc=>∃ (kq:Nat) (x63_26:Bool),v63=.bool x63_26∧As0 (w6_MobsKreweras.j2 kq l0 t515 x63_26=some r)∧As0 (kq≤kj10)∧As0 (Kd.R (Kd.int .i64) 3 wc w.heap.size (fun _=>True) v516 t515)∧As0 (wc.heap[gb514]?=some (.cells #[.int .i64 t508,.int .i64 t509,.int .i64 t510,.int .i64 t511] 31 (0,0)))∧As0 (Below w.heap.size w wc))
        case first =>
         have H:=HC27.out;clear HC27;replace H:=Option.bind_eq_some_iff.mp H;obtain ⟨t520,A280,H⟩:=H;replace H:(if t520=true then (w6_MobsKreweras.j2 kj10 l0 t515 ((t515.length:Int) != (l0.length:Int))) else (w6_MobsKreweras.j2 kj10 l0 t515 true))=some r:=H;have A28:=As0.mk A280;clear A280
         by_cases c29:t520=true
         ·subst c29
          have H1:(w6_MobsKreweras.j2 kj10 l0 t515 ((t515.length:Int) != (l0.length:Int)))=some r:=by rw [if_pos rfl] at H;exact H
          clear H;have H:=H1;clear H1;have H':=As0.mk H;clear H;obtain ⟨Ao30,co30,eo30⟩:=Kd.R_slice HO_6.out;subst eo30;go_wp2_with (first|((with_reducible refine y0a (f:=30) rfl ?_);refine y0k (some 55) rfl rfl Tra.func30 (by kernel_rfl) rfl #[.slice Ao30 t515.length co30] rfl (by (try simp only [List.map_toArray,List.map_cons,List.map_nil]);first|done|rfl|(simp only [List.length_drop,List.length_take];rfl)) ?_;(with_reducible refine (r6_IsParting.calls kj10 _ _ t515 true _ ?side1 ?side2 A28.out).mono ?_);(case side1=>repeat (first|exact (Kd.R_reads' HO_6.out).2.2|(with_reducible refine Kd.C_alloc ?_ _)|(with_reducible refine Kd.C_drewN ?_ _)|(with_reducible refine Kd.C_drew ?_)));(case side2=>exact (Kd.R_reads' HO_6.out).2.1);rintro e w' ⟨rfl,⟨nd,rfl⟩⟩;refine ⟨_,rfl,?_⟩))
          go_meet
          case rel=>exact ⟨_,(((t515.length:Int) != (l0.length:Int))),(by first|rfl|(simp;done)|(simp [*];done)),H',⟨by have:=HJ1.out;have:=HJ10.out;first|omega|exact zLe _⟩,⟨by (with_reducible repeat (first|apply Kd.R_alloc|apply Kd.R_drewN|apply Kd.R_drew));exact HO_6.out⟩,⟨by (with_reducible repeat (first|refine y05 ?_ _|refine blk_drew ?_|refine blk_alloc ?_ _));exact BK514.out⟩,⟨by repeat (with_reducible first|exact HB.out|apply y01|apply y00|apply y02|refine y03 ?_ GE514.out)⟩⟩
         ·replace c29:=Bool.eq_false_iff.mpr c29
          subst c29;have H1:(w6_MobsKreweras.j2 kj10 l0 t515 true)=some r:=by rw [if_neg (show ¬ (false=true) by decide)] at H;exact H
          clear H;have H:=H1;clear H1;have H':=As0.mk H;clear H;obtain ⟨Ao31,co31,eo31⟩:=Kd.R_slice HO_6.out;subst eo31;go_wp2_with (first|((with_reducible refine y0a (f:=30) rfl ?_);refine y0k (some 55) rfl rfl Tra.func30 (by kernel_rfl) rfl #[.slice Ao31 t515.length co31] rfl (by (try simp only [List.map_toArray,List.map_cons,List.map_nil]);first|done|rfl|(simp only [List.length_drop,List.length_take];rfl)) ?_;(with_reducible refine (r6_IsParting.calls kj10 _ _ t515 false _ ?side1 ?side2 A28.out).mono ?_);(case side1=>repeat (first|exact (Kd.R_reads' HO_6.out).2.2|(with_reducible refine Kd.C_alloc ?_ _)|(with_reducible refine Kd.C_drewN ?_ _)|(with_reducible refine Kd.C_drew ?_)));(case side2=>exact (Kd.R_reads' HO_6.out).2.1);rintro e w' ⟨rfl,⟨nd,rfl⟩⟩;refine ⟨_,rfl,?_⟩))
          go_meet
          case rel=>exact ⟨_,(true),(by first|rfl|(simp;done)|(simp [*];done)),H',⟨by have:=HJ1.out;have:=HJ10.out;first|omega|exact zLe _⟩,⟨by (with_reducible repeat (first|apply Kd.R_alloc|apply Kd.R_drewN|apply Kd.R_drew));exact HO_6.out⟩,⟨by (with_reducible repeat (first|refine y05 ?_ _|refine blk_drew ?_|refine blk_alloc ?_ _));exact BK514.out⟩,⟨by repeat (with_reducible first|exact HB.out|apply y01|apply y00|apply y02|refine y03 ?_ GE514.out)⟩⟩
        case rest =>
         clear HC27
         try clear c1
         try clear c2
         try clear p2
         try clear c3
         try clear c4
         try clear c6
         try clear c17
         try clear c17b0
         try clear c17b1
         try clear c18
         try clear c18b0
         try clear c18b1
         try clear c18b2
         try clear c19
         try clear c19b0
         try clear c19b1
         try clear c20
         try clear c21
         try clear c22
         try clear c22b0
         try clear c22b1
         try clear c22b2
         try clear c23
         try clear c25
         try clear c29
         try clear c30
         try clear hcz14_0
         try clear hcz14_1
         try clear hcz14_2
         try clear hcz14_3
         try clear hfz14_0
         try clear hfz14_1
         try clear hfz14_2
         try clear hfz14_3
         try clear p2
         obtain ⟨kq,x63_26,rfl,HA,HJ26,HO_6,BK514,HB⟩:=hcut;cases kq with
         |zero=>exact absurd HA.out (by simp [w6_MobsKreweras.j2])
         |succ kj26 =>
          have H:=HA.out;clear HA;simp only [w6_MobsKreweras.j2] at H
          by_cases c32:x63_26=true
          ·subst c32
           have H1:(some false)=some r:=by rw [if_pos rfl] at H;exact H
           clear H;have H:=H1;clear H1;obtain rfl:=zSi H;go_wp2
           go_ret
           exact ⟨by first|rfl|(simp [y08,y07]<;>rfl)|(simp [*,y08,y07]<;>rfl),by repeat (with_reducible first|exact HB.out|apply y01|apply y00|apply y02|refine y03 ?_ GE514.out)⟩
          ·replace c32:=Bool.eq_false_iff.mpr c32
           subst c32;have H1:((mobs_Crossed.f kj26 t515).bind fun bt521=>((mobs_Between.f kj26 t515).bind fun bt527=>((mobs_Around.f kj26 l0 1).bind fun bt531=>(if bt521.2.2.2.2.2=0 then (if bt527.2=0 then (if bt531.2=0 then (if bt521.2.2.2.2.1=true then (some false) else ((w6_same.f kj26 bt527.1 bt531.1).bind fun t535=>(if t535=true then (if (l0.length:Int)=0 then ((w6_alive.f).bind fun t536=>(some t536)) else ((r6_Many.f kj26 l0).bind fun t537=>((r6_Many.f kj26 t515).bind fun t538=>(if (wrap64 (t537+t538))=(wrap64 ((l0.length:Int)+1)) then ((w6_alive.f).bind fun t539=>(some t539)) else (some false))))) else (some false)))) else (some false)) else (some false)) else (some false)))))=some r:=by rw [if_neg (show ¬ (false=true) by decide)] at H;exact H
           clear H;have H:=H1;clear H1;replace H:=Option.bind_eq_some_iff.mp H;obtain ⟨⟨t521,t522,t523,t524,t525,t526⟩,A330,H⟩:=H;replace H:((mobs_Between.f kj26 t515).bind fun bt527=>((mobs_Around.f kj26 l0 1).bind fun bt531=>(if t526=0 then (if bt527.2=0 then (if bt531.2=0 then (if t525=true then (some false) else ((w6_same.f kj26 bt527.1 bt531.1).bind fun t535=>(if t535=true then (if (l0.length:Int)=0 then ((w6_alive.f).bind fun t536=>(some t536)) else ((r6_Many.f kj26 l0).bind fun t537=>((r6_Many.f kj26 t515).bind fun t538=>(if (wrap64 (t537+t538))=(wrap64 ((l0.length:Int)+1)) then ((w6_alive.f).bind fun t539=>(some t539)) else (some false))))) else (some false)))) else (some false)) else (some false)) else (some false))))=some r:=H;have A33:=As0.mk A330;clear A330;replace H:=Option.bind_eq_some_iff.mp H;obtain ⟨⟨t527,t530⟩,A340,H⟩:=H;replace H:((mobs_Around.f kj26 l0 1).bind fun bt531=>(if t526=0 then (if t530=0 then (if bt531.2=0 then (if t525=true then (some false) else ((w6_same.f kj26 t527 bt531.1).bind fun t535=>(if t535=true then (if (l0.length:Int)=0 then ((w6_alive.f).bind fun t536=>(some t536)) else ((r6_Many.f kj26 l0).bind fun t537=>((r6_Many.f kj26 t515).bind fun t538=>(if (wrap64 (t537+t538))=(wrap64 ((l0.length:Int)+1)) then ((w6_alive.f).bind fun t539=>(some t539)) else (some false))))) else (some false)))) else (some false)) else (some false)) else (some false)))=some r:=H;have A34:=As0.mk A340;clear A340;replace H:=Option.bind_eq_some_iff.mp H;obtain ⟨⟨t531,t534⟩,A350,H⟩:=H;replace H:(if t526=0 then (if t530=0 then (if t534=0 then (if t525=true then (some false) else ((w6_same.f kj26 t527 t531).bind fun t535=>(if t535=true then (if (l0.length:Int)=0 then ((w6_alive.f).bind fun t536=>(some t536)) else ((r6_Many.f kj26 l0).bind fun t537=>((r6_Many.f kj26 t515).bind fun t538=>(if (wrap64 (t537+t538))=(wrap64 ((l0.length:Int)+1)) then ((w6_alive.f).bind fun t539=>(some t539)) else (some false))))) else (some false)))) else (some false)) else (some false)) else (some false))=some r:=H;have A35:=As0.mk A350;clear A350
           by_cases c36:t526=0
           ·rw [if_pos c36] at H
            have c36b0:(t526 == 0)=true:=beq_iff_eq.mpr c36;have c36b1:(t526 != 0)=false:=bne_eq_false_iff_eq.mpr c36;clear c36
            by_cases c37:t530=0
            ·rw [if_pos c37] at H
             have c37b0:(t530 == 0)=true:=beq_iff_eq.mpr c37;have c37b1:(t530 != 0)=false:=bne_eq_false_iff_eq.mpr c37;clear c37
             by_cases c38:t534=0
             ·rw [if_pos c38] at H
              have c38b0:(t534 == 0)=true:=beq_iff_eq.mpr c38;have c38b1:(t534 != 0)=false:=bne_eq_false_iff_eq.mpr c38;clear c38
              by_cases c39:t525=true
              ·subst c39
               have H1:(some false)=some r:=by rw [if_pos rfl] at H;exact H
               clear H;have H:=H1;clear H1;obtain rfl:=zSi H;obtain ⟨Ao40,co40,eo40⟩:=Kd.R_slice HO_6.out;subst eo40;go_wp2_with (first|((with_reducible refine y0a (f:=23) rfl ?_);refine y0k (some 66) rfl rfl Tra.func23 (by kernel_rfl) rfl #[.slice Ao40 t515.length co40] rfl (by (try simp only [List.map_toArray,List.map_cons,List.map_nil]);first|done|rfl|(simp only [List.length_drop,List.length_take];rfl)) ?_;(with_reducible refine (mobs_Crossed.calls kj26 (fun k_=>some k_=(.slice Ao40 t515.length co40:Value).ownBlock) _ _ t515 t521 t522 t523 t524 true t526 _ ?side1 A33.out).mono ?_);(case side1=>exact Kd.R_V (Kd.R_tight rfl (Kd.R_types (HO_6.out) BK514.out (by decide))));rintro e w41 ⟨rfl,hb⟩;refine ⟨_,rfl,?_⟩;have n0_:=As0.mk (Kd.R_below (by (with_reducible repeat (first|apply Kd.R_alloc|apply Kd.R_drewN|apply Kd.R_drew));exact HO_6.out) hb);have n1_:=As0.mk (y0f (g:=gb514) (o:=.cells #[.int .i64 t508,.int .i64 t509,.int .i64 t510,.int .i64 t511] 31 (0,0)) (by (with_reducible repeat (first|refine y05 ?_ _|refine blk_drew ?_|refine blk_alloc ?_ _));exact BK514.out) hb);have n2_:=As0.mk (y04 (by repeat (with_reducible first|exact HB.out|apply y01|apply y00|apply y02|refine y03 ?_ GE514.out)) hb);clear HO_6;clear BK514;clear HB;have HO_6:=n0_;have BK514:=n1_;have HB:=n2_;clear n0_ n1_ n2_;(try clear hb);(try clear hb2);(try clear hk);(try clear hi))|((with_reducible refine y0a (f:=25) rfl ?_);refine y0k (some 72) rfl rfl Tra.func25 (by kernel_rfl) rfl #[.slice Ao40 t515.length co40] rfl (by (try simp only [List.map_toArray,List.map_cons,List.map_nil]);first|done|rfl|(simp only [List.length_drop,List.length_take];rfl)) ?_;(with_reducible refine (mobs_Between.calls kj26 (fun k_=>some k_=(.slice Ao40 t515.length co40:Value).ownBlock) _ _ t515 t527 t530 _ ?side1 A34.out).mono ?_);(case side1=>exact Kd.R_V (Kd.R_tight rfl (Kd.R_types (HO_6.out) BK514.out (by decide))));rintro e w42 ⟨v528,rfl,ho0,hb⟩;refine ⟨_,rfl,?_⟩;have n0_:=As0.mk (Kd.R_elder' (by (with_reducible repeat (first|apply Kd.R_alloc|apply Kd.R_drewN|apply Kd.R_drew));exact HO_6.out) (Kd.R_base ho0) hb);have n1_:=As0.mk (Kd.R_lower (Kd.R_new' (Kd.R_mono (ok':=fun k_=>True) ho0 (fun _ hk_=>trivial)) (Kd.R_lt (by (with_reducible repeat (first|apply Kd.R_alloc|apply Kd.R_drewN|apply Kd.R_drew));exact HO_6.out))) (y06 (by repeat (with_reducible first|exact HB.out|apply y01|apply y00|apply y02|refine y03 ?_ GE514.out))));have n2_:=As0.mk (y0f (g:=gb514) (o:=.cells #[.int .i64 t508,.int .i64 t509,.int .i64 t510,.int .i64 t511] 31 (0,0)) (by (with_reducible repeat (first|refine y05 ?_ _|refine blk_drew ?_|refine blk_alloc ?_ _));exact BK514.out) hb);have n3_:=As0.mk (y04 (by repeat (with_reducible first|exact HB.out|apply y01|apply y00|apply y02|refine y03 ?_ GE514.out)) hb);clear HO_6;clear BK514;clear HB;have HO_6:=n0_;have HO529:=n1_;have BK514:=n2_;have HB:=n3_;clear n0_ n1_ n2_ n3_;(try clear hb);(try clear hb2);(try clear hk);(try clear hi);(try clear ho0))|((with_reducible refine y0a (f:=28) rfl ?_);refine y0k (some 77) rfl rfl Tra.func28 (by kernel_rfl) rfl #[.slice A0 l0.length c0,.int .i64 1] rfl (by (try simp only [List.map_toArray,List.map_cons,List.map_nil]);first|done|rfl|(simp only [List.length_drop,List.length_take];rfl)) ?_;(with_reducible refine (mobs_Around.calls kj26 (fun k_=>k_<w.heap.size) _ _ l0 1 t531 t534 _ ?side1 A35.out).mono ?_);(case side1=>exact Kd.V_mk HC0.out (Kd.F_below (Kd.C_F (Kd.heap_int .i64) HR0.out) (by repeat (with_reducible first|exact HB.out|apply y01|apply y00|apply y02|refine y03 ?_ GE514.out))));rintro e w43 ⟨v532,rfl,ho0,hb⟩;refine ⟨_,rfl,?_⟩;have n0_:=As0.mk (Kd.R_elder' (by (with_reducible repeat (first|apply Kd.R_alloc|apply Kd.R_drewN|apply Kd.R_drew));exact HO_6.out) (Kd.R_base ho0) hb);have n1_:=As0.mk (Kd.R_elder' (by (with_reducible repeat (first|apply Kd.R_alloc|apply Kd.R_drewN|apply Kd.R_drew));exact HO529.out) (Kd.R_base ho0) hb);have n2_:=As0.mk (Kd.R_lower (Kd.R_new' (Kd.R_new' (Kd.R_mono (ok':=fun k_=>True) ho0 (fun _ hk_=>trivial)) (Kd.R_lt (by (with_reducible repeat (first|apply Kd.R_alloc|apply Kd.R_drewN|apply Kd.R_drew));exact HO_6.out))) (Kd.R_lt (by (with_reducible repeat (first|apply Kd.R_alloc|apply Kd.R_drewN|apply Kd.R_drew));exact HO529.out))) (y06 (by repeat (with_reducible first|exact HB.out|apply y01|apply y00|apply y02|refine y03 ?_ GE514.out))));have n3_:=As0.mk (y0f (g:=gb514) (o:=.cells #[.int .i64 t508,.int .i64 t509,.int .i64 t510,.int .i64 t511] 31 (0,0)) (by (with_reducible repeat (first|refine y05 ?_ _|refine blk_drew ?_|refine blk_alloc ?_ _));exact BK514.out) hb);have n4_:=As0.mk (y04 (by repeat (with_reducible first|exact HB.out|apply y01|apply y00|apply y02|refine y03 ?_ GE514.out)) hb);clear HO_6;clear HO529;clear BK514;clear HB;have HO_6:=n0_;have HO529:=n1_;have HO533:=n2_;have BK514:=n3_;have HB:=n4_;clear n0_ n1_ n2_ n3_ n4_;(try clear hb);(try clear hb2);(try clear hk);(try clear hi);(try clear ho0)))
               go_ret
               exact ⟨by first|rfl|(simp [y08,y07]<;>rfl)|(simp [*,y08,y07]<;>rfl),by repeat (with_reducible first|exact HB.out|apply y01|apply y00|apply y02|refine y03 ?_ GE514.out)⟩
              ·replace c39:=Bool.eq_false_iff.mpr c39
               subst c39;have H1:((w6_same.f kj26 t527 t531).bind fun t535=>(if t535=true then (if (l0.length:Int)=0 then ((w6_alive.f).bind fun t536=>(some t536)) else ((r6_Many.f kj26 l0).bind fun t537=>((r6_Many.f kj26 t515).bind fun t538=>(if (wrap64 (t537+t538))=(wrap64 ((l0.length:Int)+1)) then ((w6_alive.f).bind fun t539=>(some t539)) else (some false))))) else (some false)))=some r:=by rw [if_neg (show ¬ (false=true) by decide)] at H;exact H
               clear H;have H:=H1;clear H1;replace H:=Option.bind_eq_some_iff.mp H;obtain ⟨t535,A440,H⟩:=H;replace H:(if t535=true then (if (l0.length:Int)=0 then ((w6_alive.f).bind fun t536=>(some t536)) else ((r6_Many.f kj26 l0).bind fun t537=>((r6_Many.f kj26 t515).bind fun t538=>(if (wrap64 (t537+t538))=(wrap64 ((l0.length:Int)+1)) then ((w6_alive.f).bind fun t539=>(some t539)) else (some false))))) else (some false))=some r:=H;have A44:=As0.mk A440;clear A440
               by_cases c45:t535=true
               ·subst c45
                have H1:(if (l0.length:Int)=0 then ((w6_alive.f).bind fun t536=>(some t536)) else ((r6_Many.f kj26 l0).bind fun t537=>((r6_Many.f kj26 t515).bind fun t538=>(if (wrap64 (t537+t538))=(wrap64 ((l0.length:Int)+1)) then ((w6_alive.f).bind fun t539=>(some t539)) else (some false)))))=some r:=by rw [if_pos rfl] at H;exact H
                clear H;have H:=H1;clear H1
                by_cases c46:(l0.length:Int)=0
                ·rw [if_pos c46] at H
                 have c46b0:((l0.length:Int) == 0)=true:=beq_iff_eq.mpr c46;have c46b1:((l0.length:Int) != 0)=false:=bne_eq_false_iff_eq.mpr c46;clear c46;replace H:=Option.bind_eq_some_iff.mp H;obtain ⟨t536,A470,H⟩:=H;replace H:(some t536)=some r:=H;have A47:=As0.mk A470;clear A470;obtain rfl:=zSi H;obtain ⟨Ao48,co48,eo48⟩:=Kd.R_slice HO_6.out;subst eo48;go_wp2_with (first|((with_reducible refine y0a (f:=23) rfl ?_);refine y0k (some 66) rfl rfl Tra.func23 (by kernel_rfl) rfl #[.slice Ao48 t515.length co48] rfl (by (try simp only [List.map_toArray,List.map_cons,List.map_nil]);first|done|rfl|(simp only [List.length_drop,List.length_take];rfl)) ?_;(with_reducible refine (mobs_Crossed.calls kj26 (fun k_=>some k_=(.slice Ao48 t515.length co48:Value).ownBlock) _ _ t515 t521 t522 t523 t524 false t526 _ ?side1 A33.out).mono ?_);(case side1=>exact Kd.R_V (Kd.R_tight rfl (Kd.R_types (HO_6.out) BK514.out (by decide))));rintro e w49 ⟨rfl,hb⟩;refine ⟨_,rfl,?_⟩;have n0_:=As0.mk (Kd.R_below (by (with_reducible repeat (first|apply Kd.R_alloc|apply Kd.R_drewN|apply Kd.R_drew));exact HO_6.out) hb);have n1_:=As0.mk (y0f (g:=gb514) (o:=.cells #[.int .i64 t508,.int .i64 t509,.int .i64 t510,.int .i64 t511] 31 (0,0)) (by (with_reducible repeat (first|refine y05 ?_ _|refine blk_drew ?_|refine blk_alloc ?_ _));exact BK514.out) hb);have n2_:=As0.mk (y04 (by repeat (with_reducible first|exact HB.out|apply y01|apply y00|apply y02|refine y03 ?_ GE514.out)) hb);clear HO_6;clear BK514;clear HB;have HO_6:=n0_;have BK514:=n1_;have HB:=n2_;clear n0_ n1_ n2_;(try clear hb);(try clear hb2);(try clear hk);(try clear hi))|((with_reducible refine y0a (f:=25) rfl ?_);refine y0k (some 72) rfl rfl Tra.func25 (by kernel_rfl) rfl #[.slice Ao48 t515.length co48] rfl (by (try simp only [List.map_toArray,List.map_cons,List.map_nil]);first|done|rfl|(simp only [List.length_drop,List.length_take];rfl)) ?_;(with_reducible refine (mobs_Between.calls kj26 (fun k_=>some k_=(.slice Ao48 t515.length co48:Value).ownBlock) _ _ t515 t527 t530 _ ?side1 A34.out).mono ?_);(case side1=>exact Kd.R_V (Kd.R_tight rfl (Kd.R_types (HO_6.out) BK514.out (by decide))));rintro e w50 ⟨v528,rfl,ho0,hb⟩;refine ⟨_,rfl,?_⟩;have n0_:=As0.mk (Kd.R_elder' (by (with_reducible repeat (first|apply Kd.R_alloc|apply Kd.R_drewN|apply Kd.R_drew));exact HO_6.out) (Kd.R_base ho0) hb);have n1_:=As0.mk (Kd.R_lower (Kd.R_new' (Kd.R_mono (ok':=fun k_=>True) ho0 (fun _ hk_=>trivial)) (Kd.R_lt (by (with_reducible repeat (first|apply Kd.R_alloc|apply Kd.R_drewN|apply Kd.R_drew));exact HO_6.out))) (y06 (by repeat (with_reducible first|exact HB.out|apply y01|apply y00|apply y02|refine y03 ?_ GE514.out))));have n2_:=As0.mk (y0f (g:=gb514) (o:=.cells #[.int .i64 t508,.int .i64 t509,.int .i64 t510,.int .i64 t511] 31 (0,0)) (by (with_reducible repeat (first|refine y05 ?_ _|refine blk_drew ?_|refine blk_alloc ?_ _));exact BK514.out) hb);have n3_:=As0.mk (y04 (by repeat (with_reducible first|exact HB.out|apply y01|apply y00|apply y02|refine y03 ?_ GE514.out)) hb);clear HO_6;clear BK514;clear HB;have HO_6:=n0_;have HO529:=n1_;have BK514:=n2_;have HB:=n3_;clear n0_ n1_ n2_ n3_;(try clear hb);(try clear hb2);(try clear hk);(try clear hi);(try clear ho0))|((with_reducible refine y0a (f:=28) rfl ?_);refine y0k (some 77) rfl rfl Tra.func28 (by kernel_rfl) rfl #[.slice A0 l0.length c0,.int .i64 1] rfl (by (try simp only [List.map_toArray,List.map_cons,List.map_nil]);first|done|rfl|(simp only [List.length_drop,List.length_take];rfl)) ?_;(with_reducible refine (mobs_Around.calls kj26 (fun k_=>k_<w.heap.size) _ _ l0 1 t531 t534 _ ?side1 A35.out).mono ?_);(case side1=>exact Kd.V_mk HC0.out (Kd.F_below (Kd.C_F (Kd.heap_int .i64) HR0.out) (by repeat (with_reducible first|exact HB.out|apply y01|apply y00|apply y02|refine y03 ?_ GE514.out))));rintro e w51 ⟨v532,rfl,ho0,hb⟩;refine ⟨_,rfl,?_⟩;have n0_:=As0.mk (Kd.R_elder' (by (with_reducible repeat (first|apply Kd.R_alloc|apply Kd.R_drewN|apply Kd.R_drew));exact HO_6.out) (Kd.R_base ho0) hb);have n1_:=As0.mk (Kd.R_elder' (by (with_reducible repeat (first|apply Kd.R_alloc|apply Kd.R_drewN|apply Kd.R_drew));exact HO529.out) (Kd.R_base ho0) hb);have n2_:=As0.mk (Kd.R_lower (Kd.R_new' (Kd.R_new' (Kd.R_mono (ok':=fun k_=>True) ho0 (fun _ hk_=>trivial)) (Kd.R_lt (by (with_reducible repeat (first|apply Kd.R_alloc|apply Kd.R_drewN|apply Kd.R_drew));exact HO_6.out))) (Kd.R_lt (by (with_reducible repeat (first|apply Kd.R_alloc|apply Kd.R_drewN|apply Kd.R_drew));exact HO529.out))) (y06 (by repeat (with_reducible first|exact HB.out|apply y01|apply y00|apply y02|refine y03 ?_ GE514.out))));have n3_:=As0.mk (y0f (g:=gb514) (o:=.cells #[.int .i64 t508,.int .i64 t509,.int .i64 t510,.int .i64 t511] 31 (0,0)) (by (with_reducible repeat (first|refine y05 ?_ _|refine blk_drew ?_|refine blk_alloc ?_ _));exact BK514.out) hb);have n4_:=As0.mk (y04 (by repeat (with_reducible first|exact HB.out|apply y01|apply y00|apply y02|refine y03 ?_ GE514.out)) hb);clear HO_6;clear HO529;clear BK514;clear HB;have HO_6:=n0_;have HO529:=n1_;have HO533:=n2_;have BK514:=n3_;have HB:=n4_;clear n0_ n1_ n2_ n3_ n4_;(try clear hb);(try clear hb2);(try clear hk);(try clear hi);(try clear ho0);obtain ⟨Ao52,co52,eo52⟩:=Kd.R_slice HO529.out;subst eo52;obtain ⟨Ao53,co53,eo53⟩:=Kd.R_slice HO533.out;subst eo53)|(go_at_call 27;(with_reducible refine (w6_same.calls kj26 _ _ t527 _ _ t531 true _ ?side1 ?side2 ?side3 ?side4 A44.out).mono ?_);(case side1=>repeat (first|exact (Kd.R_reads' HO529.out).2.2|(with_reducible refine Kd.C_alloc ?_ _)|(with_reducible refine Kd.C_drewN ?_ _)|(with_reducible refine Kd.C_drew ?_)));(case side2=>exact (Kd.R_reads' HO529.out).2.1);(case side3=>repeat (first|exact (Kd.R_reads' HO533.out).2.2|(with_reducible refine Kd.C_alloc ?_ _)|(with_reducible refine Kd.C_drewN ?_ _)|(with_reducible refine Kd.C_drew ?_)));(case side4=>exact (Kd.R_reads' HO533.out).2.1);rintro e w' ⟨rfl,⟨nd,rfl⟩⟩)|(go_at_call 20;(with_reducible refine (w6_alive.calls  t536 _ A47.out).mono ?_);rintro e w54 ⟨rfl,hb⟩;have n0_:=As0.mk (Kd.R_below (by (with_reducible repeat (first|apply Kd.R_alloc|apply Kd.R_drewN|apply Kd.R_drew));exact HO_6.out) hb);have n1_:=As0.mk (Kd.R_below (by (with_reducible repeat (first|apply Kd.R_alloc|apply Kd.R_drewN|apply Kd.R_drew));exact HO529.out) hb);have n2_:=As0.mk (Kd.R_below (by (with_reducible repeat (first|apply Kd.R_alloc|apply Kd.R_drewN|apply Kd.R_drew));exact HO533.out) hb);have n3_:=As0.mk (y0f (g:=gb514) (o:=.cells #[.int .i64 t508,.int .i64 t509,.int .i64 t510,.int .i64 t511] 31 (0,0)) (by (with_reducible repeat (first|refine y05 ?_ _|refine blk_drew ?_|refine blk_alloc ?_ _));exact BK514.out) hb);have n4_:=As0.mk (y04 (by repeat (with_reducible first|exact HB.out|apply y01|apply y00|apply y02|refine y03 ?_ GE514.out)) hb);clear HO_6;clear HO529;clear HO533;clear BK514;clear HB;have HO_6:=n0_;have HO529:=n1_;have HO533:=n2_;have BK514:=n3_;have HB:=n4_;clear n0_ n1_ n2_ n3_ n4_;(try clear hb);(try clear hb2);(try clear hk);(try clear hi)))
                 go_ret
                 exact ⟨by first|rfl|(simp [y08,y07]<;>rfl)|(simp [*,y08,y07]<;>rfl),by repeat (with_reducible first|exact HB.out|apply y01|apply y00|apply y02|refine y03 ?_ GE514.out)⟩
                ·rw [if_neg c46] at H
                 have c46b0:((l0.length:Int) == 0)=false:=beq_eq_false_iff_ne.mpr c46;have c46b1:((l0.length:Int) != 0)=true:=bne_iff_ne.mpr c46;have c46b2:¬ (l0=[]):=fun h_=>c46 (by rw [h_];rfl)
                 replace H:=Option.bind_eq_some_iff.mp H;obtain ⟨t537,A550,H⟩:=H;replace H:((r6_Many.f kj26 t515).bind fun t538=>(if (wrap64 (t537+t538))=(wrap64 ((l0.length:Int)+1)) then ((w6_alive.f).bind fun t539=>(some t539)) else (some false)))=some r:=H;have A55:=As0.mk A550;clear A550;replace H:=Option.bind_eq_some_iff.mp H;obtain ⟨t538,A560,H⟩:=H;replace H:(if (wrap64 (t537+t538))=(wrap64 ((l0.length:Int)+1)) then ((w6_alive.f).bind fun t539=>(some t539)) else (some false))=some r:=H;have A56:=As0.mk A560;clear A560
                 by_cases c57:(wrap64 (t537+t538))=(wrap64 ((l0.length:Int)+1))
                 ·rw [if_pos c57] at H
                  have c57b0:((wrap64 (t537+t538)) == (wrap64 ((l0.length:Int)+1)))=true:=beq_iff_eq.mpr c57;have c57b1:((wrap64 (t537+t538)) != (wrap64 ((l0.length:Int)+1)))=false:=bne_eq_false_iff_eq.mpr c57;clear c57;replace H:=Option.bind_eq_some_iff.mp H;obtain ⟨t539,A580,H⟩:=H;replace H:(some t539)=some r:=H;have A58:=As0.mk A580;clear A580;obtain rfl:=zSi H;obtain ⟨Ao59,co59,eo59⟩:=Kd.R_slice HO_6.out;subst eo59;go_wp2_with (first|((with_reducible refine y0a (f:=23) rfl ?_);refine y0k (some 66) rfl rfl Tra.func23 (by kernel_rfl) rfl #[.slice Ao59 t515.length co59] rfl (by (try simp only [List.map_toArray,List.map_cons,List.map_nil]);first|done|rfl|(simp only [List.length_drop,List.length_take];rfl)) ?_;(with_reducible refine (mobs_Crossed.calls kj26 (fun k_=>some k_=(.slice Ao59 t515.length co59:Value).ownBlock) _ _ t515 t521 t522 t523 t524 false t526 _ ?side1 A33.out).mono ?_);(case side1=>exact Kd.R_V (Kd.R_tight rfl (Kd.R_types (HO_6.out) BK514.out (by decide))));rintro e w60 ⟨rfl,hb⟩;refine ⟨_,rfl,?_⟩;have n0_:=As0.mk (Kd.R_below (by (with_reducible repeat (first|apply Kd.R_alloc|apply Kd.R_drewN|apply Kd.R_drew));exact HO_6.out) hb);have n1_:=As0.mk (y0f (g:=gb514) (o:=.cells #[.int .i64 t508,.int .i64 t509,.int .i64 t510,.int .i64 t511] 31 (0,0)) (by (with_reducible repeat (first|refine y05 ?_ _|refine blk_drew ?_|refine blk_alloc ?_ _));exact BK514.out) hb);have n2_:=As0.mk (y04 (by repeat (with_reducible first|exact HB.out|apply y01|apply y00|apply y02|refine y03 ?_ GE514.out)) hb);clear HO_6;clear BK514;clear HB;have HO_6:=n0_;have BK514:=n1_;have HB:=n2_;clear n0_ n1_ n2_;(try clear hb);(try clear hb2);(try clear hk);(try clear hi))|((with_reducible refine y0a (f:=25) rfl ?_);refine y0k (some 72) rfl rfl Tra.func25 (by kernel_rfl) rfl #[.slice Ao59 t515.length co59] rfl (by (try simp only [List.map_toArray,List.map_cons,List.map_nil]);first|done|rfl|(simp only [List.length_drop,List.length_take];rfl)) ?_;(with_reducible refine (mobs_Between.calls kj26 (fun k_=>some k_=(.slice Ao59 t515.length co59:Value).ownBlock) _ _ t515 t527 t530 _ ?side1 A34.out).mono ?_);(case side1=>exact Kd.R_V (Kd.R_tight rfl (Kd.R_types (HO_6.out) BK514.out (by decide))));rintro e w61 ⟨v528,rfl,ho0,hb⟩;refine ⟨_,rfl,?_⟩;have n0_:=As0.mk (Kd.R_elder' (by (with_reducible repeat (first|apply Kd.R_alloc|apply Kd.R_drewN|apply Kd.R_drew));exact HO_6.out) (Kd.R_base ho0) hb);have n1_:=As0.mk (Kd.R_lower (Kd.R_new' (Kd.R_mono (ok':=fun k_=>True) ho0 (fun _ hk_=>trivial)) (Kd.R_lt (by (with_reducible repeat (first|apply Kd.R_alloc|apply Kd.R_drewN|apply Kd.R_drew));exact HO_6.out))) (y06 (by repeat (with_reducible first|exact HB.out|apply y01|apply y00|apply y02|refine y03 ?_ GE514.out))));have n2_:=As0.mk (y0f (g:=gb514) (o:=.cells #[.int .i64 t508,.int .i64 t509,.int .i64 t510,.int .i64 t511] 31 (0,0)) (by (with_reducible repeat (first|refine y05 ?_ _|refine blk_drew ?_|refine blk_alloc ?_ _));exact BK514.out) hb);have n3_:=As0.mk (y04 (by repeat (with_reducible first|exact HB.out|apply y01|apply y00|apply y02|refine y03 ?_ GE514.out)) hb);clear HO_6;clear BK514;clear HB;have HO_6:=n0_;have HO529:=n1_;have BK514:=n2_;have HB:=n3_;clear n0_ n1_ n2_ n3_;(try clear hb);(try clear hb2);(try clear hk);(try clear hi);(try clear ho0))|((with_reducible refine y0a (f:=28) rfl ?_);refine y0k (some 77) rfl rfl Tra.func28 (by kernel_rfl) rfl #[.slice A0 l0.length c0,.int .i64 1] rfl (by (try simp only [List.map_toArray,List.map_cons,List.map_nil]);first|done|rfl|(simp only [List.length_drop,List.length_take];rfl)) ?_;(with_reducible refine (mobs_Around.calls kj26 (fun k_=>k_<w.heap.size) _ _ l0 1 t531 t534 _ ?side1 A35.out).mono ?_);(case side1=>exact Kd.V_mk HC0.out (Kd.F_below (Kd.C_F (Kd.heap_int .i64) HR0.out) (by repeat (with_reducible first|exact HB.out|apply y01|apply y00|apply y02|refine y03 ?_ GE514.out))));rintro e w62 ⟨v532,rfl,ho0,hb⟩;refine ⟨_,rfl,?_⟩;have n0_:=As0.mk (Kd.R_elder' (by (with_reducible repeat (first|apply Kd.R_alloc|apply Kd.R_drewN|apply Kd.R_drew));exact HO_6.out) (Kd.R_base ho0) hb);have n1_:=As0.mk (Kd.R_elder' (by (with_reducible repeat (first|apply Kd.R_alloc|apply Kd.R_drewN|apply Kd.R_drew));exact HO529.out) (Kd.R_base ho0) hb);have n2_:=As0.mk (Kd.R_lower (Kd.R_new' (Kd.R_new' (Kd.R_mono (ok':=fun k_=>True) ho0 (fun _ hk_=>trivial)) (Kd.R_lt (by (with_reducible repeat (first|apply Kd.R_alloc|apply Kd.R_drewN|apply Kd.R_drew));exact HO_6.out))) (Kd.R_lt (by (with_reducible repeat (first|apply Kd.R_alloc|apply Kd.R_drewN|apply Kd.R_drew));exact HO529.out))) (y06 (by repeat (with_reducible first|exact HB.out|apply y01|apply y00|apply y02|refine y03 ?_ GE514.out))));have n3_:=As0.mk (y0f (g:=gb514) (o:=.cells #[.int .i64 t508,.int .i64 t509,.int .i64 t510,.int .i64 t511] 31 (0,0)) (by (with_reducible repeat (first|refine y05 ?_ _|refine blk_drew ?_|refine blk_alloc ?_ _));exact BK514.out) hb);have n4_:=As0.mk (y04 (by repeat (with_reducible first|exact HB.out|apply y01|apply y00|apply y02|refine y03 ?_ GE514.out)) hb);clear HO_6;clear HO529;clear BK514;clear HB;have HO_6:=n0_;have HO529:=n1_;have HO533:=n2_;have BK514:=n3_;have HB:=n4_;clear n0_ n1_ n2_ n3_ n4_;(try clear hb);(try clear hb2);(try clear hk);(try clear hi);(try clear ho0);obtain ⟨Ao63,co63,eo63⟩:=Kd.R_slice HO529.out;subst eo63;obtain ⟨Ao64,co64,eo64⟩:=Kd.R_slice HO533.out;subst eo64)|(go_at_call 27;(with_reducible refine (w6_same.calls kj26 _ _ t527 _ _ t531 true _ ?side1 ?side2 ?side3 ?side4 A44.out).mono ?_);(case side1=>repeat (first|exact (Kd.R_reads' HO529.out).2.2|(with_reducible refine Kd.C_alloc ?_ _)|(with_reducible refine Kd.C_drewN ?_ _)|(with_reducible refine Kd.C_drew ?_)));(case side2=>exact (Kd.R_reads' HO529.out).2.1);(case side3=>repeat (first|exact (Kd.R_reads' HO533.out).2.2|(with_reducible refine Kd.C_alloc ?_ _)|(with_reducible refine Kd.C_drewN ?_ _)|(with_reducible refine Kd.C_drew ?_)));(case side4=>exact (Kd.R_reads' HO533.out).2.1);rintro e w' ⟨rfl,⟨nd,rfl⟩⟩)|(go_at_call 31;(with_reducible refine (r6_Many.calls kj26 _ _ l0 t537 _ ?side1 ?side2 A55.out).mono ?_);(case side1=>repeat (first|exact (Kd.C_below HR0.out (by repeat (with_reducible first|exact HB.out|apply y01|apply y00|apply y02|refine y03 ?_ GE514.out)))|(with_reducible refine Kd.C_alloc ?_ _)|(with_reducible refine Kd.C_drewN ?_ _)|(with_reducible refine Kd.C_drew ?_)));(case side2=>exact HC0.out);rintro e w65 ⟨rfl,hb⟩;have n0_:=As0.mk (Kd.R_below (by (with_reducible repeat (first|apply Kd.R_alloc|apply Kd.R_drewN|apply Kd.R_drew));exact HO_6.out) hb);have n1_:=As0.mk (Kd.R_below (by (with_reducible repeat (first|apply Kd.R_alloc|apply Kd.R_drewN|apply Kd.R_drew));exact HO529.out) hb);have n2_:=As0.mk (Kd.R_below (by (with_reducible repeat (first|apply Kd.R_alloc|apply Kd.R_drewN|apply Kd.R_drew));exact HO533.out) hb);have n3_:=As0.mk (y0f (g:=gb514) (o:=.cells #[.int .i64 t508,.int .i64 t509,.int .i64 t510,.int .i64 t511] 31 (0,0)) (by (with_reducible repeat (first|refine y05 ?_ _|refine blk_drew ?_|refine blk_alloc ?_ _));exact BK514.out) hb);have n4_:=As0.mk (y04 (by repeat (with_reducible first|exact HB.out|apply y01|apply y00|apply y02|refine y03 ?_ GE514.out)) hb);clear HO_6;clear HO529;clear HO533;clear BK514;clear HB;have HO_6:=n0_;have HO529:=n1_;have HO533:=n2_;have BK514:=n3_;have HB:=n4_;clear n0_ n1_ n2_ n3_ n4_;(try clear hb);(try clear hb2);(try clear hk);(try clear hi))|(go_at_call 31;(with_reducible refine (r6_Many.calls kj26 _ _ t515 t538 _ ?side1 ?side2 A56.out).mono ?_);(case side1=>repeat (first|exact (Kd.R_reads' HO_6.out).2.2|(with_reducible refine Kd.C_alloc ?_ _)|(with_reducible refine Kd.C_drewN ?_ _)|(with_reducible refine Kd.C_drew ?_)));(case side2=>exact (Kd.R_reads' HO_6.out).2.1);rintro e w66 ⟨rfl,hb⟩;have n0_:=As0.mk (Kd.R_below (by (with_reducible repeat (first|apply Kd.R_alloc|apply Kd.R_drewN|apply Kd.R_drew));exact HO_6.out) hb);have n1_:=As0.mk (Kd.R_below (by (with_reducible repeat (first|apply Kd.R_alloc|apply Kd.R_drewN|apply Kd.R_drew));exact HO529.out) hb);have n2_:=As0.mk (Kd.R_below (by (with_reducible repeat (first|apply Kd.R_alloc|apply Kd.R_drewN|apply Kd.R_drew));exact HO533.out) hb);have n3_:=As0.mk (y0f (g:=gb514) (o:=.cells #[.int .i64 t508,.int .i64 t509,.int .i64 t510,.int .i64 t511] 31 (0,0)) (by (with_reducible repeat (first|refine y05 ?_ _|refine blk_drew ?_|refine blk_alloc ?_ _));exact BK514.out) hb);have n4_:=As0.mk (y04 (by repeat (with_reducible first|exact HB.out|apply y01|apply y00|apply y02|refine y03 ?_ GE514.out)) hb);clear HO_6;clear HO529;clear HO533;clear BK514;clear HB;have HO_6:=n0_;have HO529:=n1_;have HO533:=n2_;have BK514:=n3_;have HB:=n4_;clear n0_ n1_ n2_ n3_ n4_;(try clear hb);(try clear hb2);(try clear hk);(try clear hi))|(go_at_call 20;(with_reducible refine (w6_alive.calls  t539 _ A58.out).mono ?_);rintro e w67 ⟨rfl,hb⟩;have n0_:=As0.mk (Kd.R_below (by (with_reducible repeat (first|apply Kd.R_alloc|apply Kd.R_drewN|apply Kd.R_drew));exact HO_6.out) hb);have n1_:=As0.mk (Kd.R_below (by (with_reducible repeat (first|apply Kd.R_alloc|apply Kd.R_drewN|apply Kd.R_drew));exact HO529.out) hb);have n2_:=As0.mk (Kd.R_below (by (with_reducible repeat (first|apply Kd.R_alloc|apply Kd.R_drewN|apply Kd.R_drew));exact HO533.out) hb);have n3_:=As0.mk (y0f (g:=gb514) (o:=.cells #[.int .i64 t508,.int .i64 t509,.int .i64 t510,.int .i64 t511] 31 (0,0)) (by (with_reducible repeat (first|refine y05 ?_ _|refine blk_drew ?_|refine blk_alloc ?_ _));exact BK514.out) hb);have n4_:=As0.mk (y04 (by repeat (with_reducible first|exact HB.out|apply y01|apply y00|apply y02|refine y03 ?_ GE514.out)) hb);clear HO_6;clear HO529;clear HO533;clear BK514;clear HB;have HO_6:=n0_;have HO529:=n1_;have HO533:=n2_;have BK514:=n3_;have HB:=n4_;clear n0_ n1_ n2_ n3_ n4_;(try clear hb);(try clear hb2);(try clear hk);(try clear hi)))
                  go_ret
                  exact ⟨by first|rfl|(simp [y08,y07]<;>rfl)|(simp [*,y08,y07]<;>rfl),by repeat (with_reducible first|exact HB.out|apply y01|apply y00|apply y02|refine y03 ?_ GE514.out)⟩
                 ·rw [if_neg c57] at H
                  have c57b0:((wrap64 (t537+t538)) == (wrap64 ((l0.length:Int)+1)))=false:=beq_eq_false_iff_ne.mpr c57;have c57b1:((wrap64 (t537+t538)) != (wrap64 ((l0.length:Int)+1)))=true:=bne_iff_ne.mpr c57;obtain rfl:=zSi H;obtain ⟨Ao68,co68,eo68⟩:=Kd.R_slice HO_6.out;subst eo68;go_wp2_with (first|((with_reducible refine y0a (f:=23) rfl ?_);refine y0k (some 66) rfl rfl Tra.func23 (by kernel_rfl) rfl #[.slice Ao68 t515.length co68] rfl (by (try simp only [List.map_toArray,List.map_cons,List.map_nil]);first|done|rfl|(simp only [List.length_drop,List.length_take];rfl)) ?_;(with_reducible refine (mobs_Crossed.calls kj26 (fun k_=>some k_=(.slice Ao68 t515.length co68:Value).ownBlock) _ _ t515 t521 t522 t523 t524 false t526 _ ?side1 A33.out).mono ?_);(case side1=>exact Kd.R_V (Kd.R_tight rfl (Kd.R_types (HO_6.out) BK514.out (by decide))));rintro e w69 ⟨rfl,hb⟩;refine ⟨_,rfl,?_⟩;have n0_:=As0.mk (Kd.R_below (by (with_reducible repeat (first|apply Kd.R_alloc|apply Kd.R_drewN|apply Kd.R_drew));exact HO_6.out) hb);have n1_:=As0.mk (y0f (g:=gb514) (o:=.cells #[.int .i64 t508,.int .i64 t509,.int .i64 t510,.int .i64 t511] 31 (0,0)) (by (with_reducible repeat (first|refine y05 ?_ _|refine blk_drew ?_|refine blk_alloc ?_ _));exact BK514.out) hb);have n2_:=As0.mk (y04 (by repeat (with_reducible first|exact HB.out|apply y01|apply y00|apply y02|refine y03 ?_ GE514.out)) hb);clear HO_6;clear BK514;clear HB;have HO_6:=n0_;have BK514:=n1_;have HB:=n2_;clear n0_ n1_ n2_;(try clear hb);(try clear hb2);(try clear hk);(try clear hi))|((with_reducible refine y0a (f:=25) rfl ?_);refine y0k (some 72) rfl rfl Tra.func25 (by kernel_rfl) rfl #[.slice Ao68 t515.length co68] rfl (by (try simp only [List.map_toArray,List.map_cons,List.map_nil]);first|done|rfl|(simp only [List.length_drop,List.length_take];rfl)) ?_;(with_reducible refine (mobs_Between.calls kj26 (fun k_=>some k_=(.slice Ao68 t515.length co68:Value).ownBlock) _ _ t515 t527 t530 _ ?side1 A34.out).mono ?_);(case side1=>exact Kd.R_V (Kd.R_tight rfl (Kd.R_types (HO_6.out) BK514.out (by decide))));rintro e w70 ⟨v528,rfl,ho0,hb⟩;refine ⟨_,rfl,?_⟩;have n0_:=As0.mk (Kd.R_elder' (by (with_reducible repeat (first|apply Kd.R_alloc|apply Kd.R_drewN|apply Kd.R_drew));exact HO_6.out) (Kd.R_base ho0) hb);have n1_:=As0.mk (Kd.R_lower (Kd.R_new' (Kd.R_mono (ok':=fun k_=>True) ho0 (fun _ hk_=>trivial)) (Kd.R_lt (by (with_reducible repeat (first|apply Kd.R_alloc|apply Kd.R_drewN|apply Kd.R_drew));exact HO_6.out))) (y06 (by repeat (with_reducible first|exact HB.out|apply y01|apply y00|apply y02|refine y03 ?_ GE514.out))));have n2_:=As0.mk (y0f (g:=gb514) (o:=.cells #[.int .i64 t508,.int .i64 t509,.int .i64 t510,.int .i64 t511] 31 (0,0)) (by (with_reducible repeat (first|refine y05 ?_ _|refine blk_drew ?_|refine blk_alloc ?_ _));exact BK514.out) hb);have n3_:=As0.mk (y04 (by repeat (with_reducible first|exact HB.out|apply y01|apply y00|apply y02|refine y03 ?_ GE514.out)) hb);clear HO_6;clear BK514;clear HB;have HO_6:=n0_;have HO529:=n1_;have BK514:=n2_;have HB:=n3_;clear n0_ n1_ n2_ n3_;(try clear hb);(try clear hb2);(try clear hk);(try clear hi);(try clear ho0))|((with_reducible refine y0a (f:=28) rfl ?_);refine y0k (some 77) rfl rfl Tra.func28 (by kernel_rfl) rfl #[.slice A0 l0.length c0,.int .i64 1] rfl (by (try simp only [List.map_toArray,List.map_cons,List.map_nil]);first|done|rfl|(simp only [List.length_drop,List.length_take];rfl)) ?_;(with_reducible refine (mobs_Around.calls kj26 (fun k_=>k_<w.heap.size) _ _ l0 1 t531 t534 _ ?side1 A35.out).mono ?_);(case side1=>exact Kd.V_mk HC0.out (Kd.F_below (Kd.C_F (Kd.heap_int .i64) HR0.out) (by repeat (with_reducible first|exact HB.out|apply y01|apply y00|apply y02|refine y03 ?_ GE514.out))));rintro e w71 ⟨v532,rfl,ho0,hb⟩;refine ⟨_,rfl,?_⟩;have n0_:=As0.mk (Kd.R_elder' (by (with_reducible repeat (first|apply Kd.R_alloc|apply Kd.R_drewN|apply Kd.R_drew));exact HO_6.out) (Kd.R_base ho0) hb);have n1_:=As0.mk (Kd.R_elder' (by (with_reducible repeat (first|apply Kd.R_alloc|apply Kd.R_drewN|apply Kd.R_drew));exact HO529.out) (Kd.R_base ho0) hb);have n2_:=As0.mk (Kd.R_lower (Kd.R_new' (Kd.R_new' (Kd.R_mono (ok':=fun k_=>True) ho0 (fun _ hk_=>trivial)) (Kd.R_lt (by (with_reducible repeat (first|apply Kd.R_alloc|apply Kd.R_drewN|apply Kd.R_drew));exact HO_6.out))) (Kd.R_lt (by (with_reducible repeat (first|apply Kd.R_alloc|apply Kd.R_drewN|apply Kd.R_drew));exact HO529.out))) (y06 (by repeat (with_reducible first|exact HB.out|apply y01|apply y00|apply y02|refine y03 ?_ GE514.out))));have n3_:=As0.mk (y0f (g:=gb514) (o:=.cells #[.int .i64 t508,.int .i64 t509,.int .i64 t510,.int .i64 t511] 31 (0,0)) (by (with_reducible repeat (first|refine y05 ?_ _|refine blk_drew ?_|refine blk_alloc ?_ _));exact BK514.out) hb);have n4_:=As0.mk (y04 (by repeat (with_reducible first|exact HB.out|apply y01|apply y00|apply y02|refine y03 ?_ GE514.out)) hb);clear HO_6;clear HO529;clear BK514;clear HB;have HO_6:=n0_;have HO529:=n1_;have HO533:=n2_;have BK514:=n3_;have HB:=n4_;clear n0_ n1_ n2_ n3_ n4_;(try clear hb);(try clear hb2);(try clear hk);(try clear hi);(try clear ho0);obtain ⟨Ao72,co72,eo72⟩:=Kd.R_slice HO529.out;subst eo72;obtain ⟨Ao73,co73,eo73⟩:=Kd.R_slice HO533.out;subst eo73)|(go_at_call 27;(with_reducible refine (w6_same.calls kj26 _ _ t527 _ _ t531 true _ ?side1 ?side2 ?side3 ?side4 A44.out).mono ?_);(case side1=>repeat (first|exact (Kd.R_reads' HO529.out).2.2|(with_reducible refine Kd.C_alloc ?_ _)|(with_reducible refine Kd.C_drewN ?_ _)|(with_reducible refine Kd.C_drew ?_)));(case side2=>exact (Kd.R_reads' HO529.out).2.1);(case side3=>repeat (first|exact (Kd.R_reads' HO533.out).2.2|(with_reducible refine Kd.C_alloc ?_ _)|(with_reducible refine Kd.C_drewN ?_ _)|(with_reducible refine Kd.C_drew ?_)));(case side4=>exact (Kd.R_reads' HO533.out).2.1);rintro e w' ⟨rfl,⟨nd,rfl⟩⟩)|(go_at_call 31;(with_reducible refine (r6_Many.calls kj26 _ _ l0 t537 _ ?side1 ?side2 A55.out).mono ?_);(case side1=>repeat (first|exact (Kd.C_below HR0.out (by repeat (with_reducible first|exact HB.out|apply y01|apply y00|apply y02|refine y03 ?_ GE514.out)))|(with_reducible refine Kd.C_alloc ?_ _)|(with_reducible refine Kd.C_drewN ?_ _)|(with_reducible refine Kd.C_drew ?_)));(case side2=>exact HC0.out);rintro e w74 ⟨rfl,hb⟩;have n0_:=As0.mk (Kd.R_below (by (with_reducible repeat (first|apply Kd.R_alloc|apply Kd.R_drewN|apply Kd.R_drew));exact HO_6.out) hb);have n1_:=As0.mk (Kd.R_below (by (with_reducible repeat (first|apply Kd.R_alloc|apply Kd.R_drewN|apply Kd.R_drew));exact HO529.out) hb);have n2_:=As0.mk (Kd.R_below (by (with_reducible repeat (first|apply Kd.R_alloc|apply Kd.R_drewN|apply Kd.R_drew));exact HO533.out) hb);have n3_:=As0.mk (y0f (g:=gb514) (o:=.cells #[.int .i64 t508,.int .i64 t509,.int .i64 t510,.int .i64 t511] 31 (0,0)) (by (with_reducible repeat (first|refine y05 ?_ _|refine blk_drew ?_|refine blk_alloc ?_ _));exact BK514.out) hb);have n4_:=As0.mk (y04 (by repeat (with_reducible first|exact HB.out|apply y01|apply y00|apply y02|refine y03 ?_ GE514.out)) hb);clear HO_6;clear HO529;clear HO533;clear BK514;clear HB;have HO_6:=n0_;have HO529:=n1_;have HO533:=n2_;have BK514:=n3_;have HB:=n4_;clear n0_ n1_ n2_ n3_ n4_;(try clear hb);(try clear hb2);(try clear hk);(try clear hi))|(go_at_call 31;(with_reducible refine (r6_Many.calls kj26 _ _ t515 t538 _ ?side1 ?side2 A56.out).mono ?_);(case side1=>repeat (first|exact (Kd.R_reads' HO_6.out).2.2|(with_reducible refine Kd.C_alloc ?_ _)|(with_reducible refine Kd.C_drewN ?_ _)|(with_reducible refine Kd.C_drew ?_)));(case side2=>exact (Kd.R_reads' HO_6.out).2.1);rintro e w75 ⟨rfl,hb⟩;have n0_:=As0.mk (Kd.R_below (by (with_reducible repeat (first|apply Kd.R_alloc|apply Kd.R_drewN|apply Kd.R_drew));exact HO_6.out) hb);have n1_:=As0.mk (Kd.R_below (by (with_reducible repeat (first|apply Kd.R_alloc|apply Kd.R_drewN|apply Kd.R_drew));exact HO529.out) hb);have n2_:=As0.mk (Kd.R_below (by (with_reducible repeat (first|apply Kd.R_alloc|apply Kd.R_drewN|apply Kd.R_drew));exact HO533.out) hb);have n3_:=As0.mk (y0f (g:=gb514) (o:=.cells #[.int .i64 t508,.int .i64 t509,.int .i64 t510,.int .i64 t511] 31 (0,0)) (by (with_reducible repeat (first|refine y05 ?_ _|refine blk_drew ?_|refine blk_alloc ?_ _));exact BK514.out) hb);have n4_:=As0.mk (y04 (by repeat (with_reducible first|exact HB.out|apply y01|apply y00|apply y02|refine y03 ?_ GE514.out)) hb);clear HO_6;clear HO529;clear HO533;clear BK514;clear HB;have HO_6:=n0_;have HO529:=n1_;have HO533:=n2_;have BK514:=n3_;have HB:=n4_;clear n0_ n1_ n2_ n3_ n4_;(try clear hb);(try clear hb2);(try clear hk);(try clear hi)))
                  go_ret
                  exact ⟨by first|rfl|(simp [y08,y07]<;>rfl)|(simp [*,y08,y07]<;>rfl),by repeat (with_reducible first|exact HB.out|apply y01|apply y00|apply y02|refine y03 ?_ GE514.out)⟩
               ·replace c45:=Bool.eq_false_iff.mpr c45
                subst c45;have H1:(some false)=some r:=by rw [if_neg (show ¬ (false=true) by decide)] at H;exact H
                clear H;have H:=H1;clear H1;obtain rfl:=zSi H;obtain ⟨Ao76,co76,eo76⟩:=Kd.R_slice HO_6.out;subst eo76;go_wp2_with (first|((with_reducible refine y0a (f:=23) rfl ?_);refine y0k (some 66) rfl rfl Tra.func23 (by kernel_rfl) rfl #[.slice Ao76 t515.length co76] rfl (by (try simp only [List.map_toArray,List.map_cons,List.map_nil]);first|done|rfl|(simp only [List.length_drop,List.length_take];rfl)) ?_;(with_reducible refine (mobs_Crossed.calls kj26 (fun k_=>some k_=(.slice Ao76 t515.length co76:Value).ownBlock) _ _ t515 t521 t522 t523 t524 false t526 _ ?side1 A33.out).mono ?_);(case side1=>exact Kd.R_V (Kd.R_tight rfl (Kd.R_types (HO_6.out) BK514.out (by decide))));rintro e w77 ⟨rfl,hb⟩;refine ⟨_,rfl,?_⟩;have n0_:=As0.mk (Kd.R_below (by (with_reducible repeat (first|apply Kd.R_alloc|apply Kd.R_drewN|apply Kd.R_drew));exact HO_6.out) hb);have n1_:=As0.mk (y0f (g:=gb514) (o:=.cells #[.int .i64 t508,.int .i64 t509,.int .i64 t510,.int .i64 t511] 31 (0,0)) (by (with_reducible repeat (first|refine y05 ?_ _|refine blk_drew ?_|refine blk_alloc ?_ _));exact BK514.out) hb);have n2_:=As0.mk (y04 (by repeat (with_reducible first|exact HB.out|apply y01|apply y00|apply y02|refine y03 ?_ GE514.out)) hb);clear HO_6;clear BK514;clear HB;have HO_6:=n0_;have BK514:=n1_;have HB:=n2_;clear n0_ n1_ n2_;(try clear hb);(try clear hb2);(try clear hk);(try clear hi))|((with_reducible refine y0a (f:=25) rfl ?_);refine y0k (some 72) rfl rfl Tra.func25 (by kernel_rfl) rfl #[.slice Ao76 t515.length co76] rfl (by (try simp only [List.map_toArray,List.map_cons,List.map_nil]);first|done|rfl|(simp only [List.length_drop,List.length_take];rfl)) ?_;(with_reducible refine (mobs_Between.calls kj26 (fun k_=>some k_=(.slice Ao76 t515.length co76:Value).ownBlock) _ _ t515 t527 t530 _ ?side1 A34.out).mono ?_);(case side1=>exact Kd.R_V (Kd.R_tight rfl (Kd.R_types (HO_6.out) BK514.out (by decide))));rintro e w78 ⟨v528,rfl,ho0,hb⟩;refine ⟨_,rfl,?_⟩;have n0_:=As0.mk (Kd.R_elder' (by (with_reducible repeat (first|apply Kd.R_alloc|apply Kd.R_drewN|apply Kd.R_drew));exact HO_6.out) (Kd.R_base ho0) hb);have n1_:=As0.mk (Kd.R_lower (Kd.R_new' (Kd.R_mono (ok':=fun k_=>True) ho0 (fun _ hk_=>trivial)) (Kd.R_lt (by (with_reducible repeat (first|apply Kd.R_alloc|apply Kd.R_drewN|apply Kd.R_drew));exact HO_6.out))) (y06 (by repeat (with_reducible first|exact HB.out|apply y01|apply y00|apply y02|refine y03 ?_ GE514.out))));have n2_:=As0.mk (y0f (g:=gb514) (o:=.cells #[.int .i64 t508,.int .i64 t509,.int .i64 t510,.int .i64 t511] 31 (0,0)) (by (with_reducible repeat (first|refine y05 ?_ _|refine blk_drew ?_|refine blk_alloc ?_ _));exact BK514.out) hb);have n3_:=As0.mk (y04 (by repeat (with_reducible first|exact HB.out|apply y01|apply y00|apply y02|refine y03 ?_ GE514.out)) hb);clear HO_6;clear BK514;clear HB;have HO_6:=n0_;have HO529:=n1_;have BK514:=n2_;have HB:=n3_;clear n0_ n1_ n2_ n3_;(try clear hb);(try clear hb2);(try clear hk);(try clear hi);(try clear ho0))|((with_reducible refine y0a (f:=28) rfl ?_);refine y0k (some 77) rfl rfl Tra.func28 (by kernel_rfl) rfl #[.slice A0 l0.length c0,.int .i64 1] rfl (by (try simp only [List.map_toArray,List.map_cons,List.map_nil]);first|done|rfl|(simp only [List.length_drop,List.length_take];rfl)) ?_;(with_reducible refine (mobs_Around.calls kj26 (fun k_=>k_<w.heap.size) _ _ l0 1 t531 t534 _ ?side1 A35.out).mono ?_);(case side1=>exact Kd.V_mk HC0.out (Kd.F_below (Kd.C_F (Kd.heap_int .i64) HR0.out) (by repeat (with_reducible first|exact HB.out|apply y01|apply y00|apply y02|refine y03 ?_ GE514.out))));rintro e w79 ⟨v532,rfl,ho0,hb⟩;refine ⟨_,rfl,?_⟩;have n0_:=As0.mk (Kd.R_elder' (by (with_reducible repeat (first|apply Kd.R_alloc|apply Kd.R_drewN|apply Kd.R_drew));exact HO_6.out) (Kd.R_base ho0) hb);have n1_:=As0.mk (Kd.R_elder' (by (with_reducible repeat (first|apply Kd.R_alloc|apply Kd.R_drewN|apply Kd.R_drew));exact HO529.out) (Kd.R_base ho0) hb);have n2_:=As0.mk (Kd.R_lower (Kd.R_new' (Kd.R_new' (Kd.R_mono (ok':=fun k_=>True) ho0 (fun _ hk_=>trivial)) (Kd.R_lt (by (with_reducible repeat (first|apply Kd.R_alloc|apply Kd.R_drewN|apply Kd.R_drew));exact HO_6.out))) (Kd.R_lt (by (with_reducible repeat (first|apply Kd.R_alloc|apply Kd.R_drewN|apply Kd.R_drew));exact HO529.out))) (y06 (by repeat (with_reducible first|exact HB.out|apply y01|apply y00|apply y02|refine y03 ?_ GE514.out))));have n3_:=As0.mk (y0f (g:=gb514) (o:=.cells #[.int .i64 t508,.int .i64 t509,.int .i64 t510,.int .i64 t511] 31 (0,0)) (by (with_reducible repeat (first|refine y05 ?_ _|refine blk_drew ?_|refine blk_alloc ?_ _));exact BK514.out) hb);have n4_:=As0.mk (y04 (by repeat (with_reducible first|exact HB.out|apply y01|apply y00|apply y02|refine y03 ?_ GE514.out)) hb);clear HO_6;clear HO529;clear BK514;clear HB;have HO_6:=n0_;have HO529:=n1_;have HO533:=n2_;have BK514:=n3_;have HB:=n4_;clear n0_ n1_ n2_ n3_ n4_;(try clear hb);(try clear hb2);(try clear hk);(try clear hi);(try clear ho0);obtain ⟨Ao80,co80,eo80⟩:=Kd.R_slice HO529.out;subst eo80;obtain ⟨Ao81,co81,eo81⟩:=Kd.R_slice HO533.out;subst eo81)|(go_at_call 27;(with_reducible refine (w6_same.calls kj26 _ _ t527 _ _ t531 false _ ?side1 ?side2 ?side3 ?side4 A44.out).mono ?_);(case side1=>repeat (first|exact (Kd.R_reads' HO529.out).2.2|(with_reducible refine Kd.C_alloc ?_ _)|(with_reducible refine Kd.C_drewN ?_ _)|(with_reducible refine Kd.C_drew ?_)));(case side2=>exact (Kd.R_reads' HO529.out).2.1);(case side3=>repeat (first|exact (Kd.R_reads' HO533.out).2.2|(with_reducible refine Kd.C_alloc ?_ _)|(with_reducible refine Kd.C_drewN ?_ _)|(with_reducible refine Kd.C_drew ?_)));(case side4=>exact (Kd.R_reads' HO533.out).2.1);rintro e w' ⟨rfl,⟨nd,rfl⟩⟩))
                go_ret
                exact ⟨by first|rfl|(simp [y08,y07]<;>rfl)|(simp [*,y08,y07]<;>rfl),by repeat (with_reducible first|exact HB.out|apply y01|apply y00|apply y02|refine y03 ?_ GE514.out)⟩
             ·rw [if_neg c38] at H
              have c38b0:(t534 == 0)=false:=beq_eq_false_iff_ne.mpr c38;have c38b1:(t534 != 0)=true:=bne_iff_ne.mpr c38;obtain rfl:=zSi H;obtain ⟨Ao82,co82,eo82⟩:=Kd.R_slice HO_6.out;subst eo82;go_wp2_with (first|((with_reducible refine y0a (f:=23) rfl ?_);refine y0k (some 66) rfl rfl Tra.func23 (by kernel_rfl) rfl #[.slice Ao82 t515.length co82] rfl (by (try simp only [List.map_toArray,List.map_cons,List.map_nil]);first|done|rfl|(simp only [List.length_drop,List.length_take];rfl)) ?_;(with_reducible refine (mobs_Crossed.calls kj26 (fun k_=>some k_=(.slice Ao82 t515.length co82:Value).ownBlock) _ _ t515 t521 t522 t523 t524 t525 t526 _ ?side1 A33.out).mono ?_);(case side1=>exact Kd.R_V (Kd.R_tight rfl (Kd.R_types (HO_6.out) BK514.out (by decide))));rintro e w83 ⟨rfl,hb⟩;refine ⟨_,rfl,?_⟩;have n0_:=As0.mk (Kd.R_below (by (with_reducible repeat (first|apply Kd.R_alloc|apply Kd.R_drewN|apply Kd.R_drew));exact HO_6.out) hb);have n1_:=As0.mk (y0f (g:=gb514) (o:=.cells #[.int .i64 t508,.int .i64 t509,.int .i64 t510,.int .i64 t511] 31 (0,0)) (by (with_reducible repeat (first|refine y05 ?_ _|refine blk_drew ?_|refine blk_alloc ?_ _));exact BK514.out) hb);have n2_:=As0.mk (y04 (by repeat (with_reducible first|exact HB.out|apply y01|apply y00|apply y02|refine y03 ?_ GE514.out)) hb);clear HO_6;clear BK514;clear HB;have HO_6:=n0_;have BK514:=n1_;have HB:=n2_;clear n0_ n1_ n2_;(try clear hb);(try clear hb2);(try clear hk);(try clear hi))|((with_reducible refine y0a (f:=25) rfl ?_);refine y0k (some 72) rfl rfl Tra.func25 (by kernel_rfl) rfl #[.slice Ao82 t515.length co82] rfl (by (try simp only [List.map_toArray,List.map_cons,List.map_nil]);first|done|rfl|(simp only [List.length_drop,List.length_take];rfl)) ?_;(with_reducible refine (mobs_Between.calls kj26 (fun k_=>some k_=(.slice Ao82 t515.length co82:Value).ownBlock) _ _ t515 t527 t530 _ ?side1 A34.out).mono ?_);(case side1=>exact Kd.R_V (Kd.R_tight rfl (Kd.R_types (HO_6.out) BK514.out (by decide))));rintro e w84 ⟨v528,rfl,ho0,hb⟩;refine ⟨_,rfl,?_⟩;have n0_:=As0.mk (Kd.R_elder' (by (with_reducible repeat (first|apply Kd.R_alloc|apply Kd.R_drewN|apply Kd.R_drew));exact HO_6.out) (Kd.R_base ho0) hb);have n1_:=As0.mk (Kd.R_lower (Kd.R_new' (Kd.R_mono (ok':=fun k_=>True) ho0 (fun _ hk_=>trivial)) (Kd.R_lt (by (with_reducible repeat (first|apply Kd.R_alloc|apply Kd.R_drewN|apply Kd.R_drew));exact HO_6.out))) (y06 (by repeat (with_reducible first|exact HB.out|apply y01|apply y00|apply y02|refine y03 ?_ GE514.out))));have n2_:=As0.mk (y0f (g:=gb514) (o:=.cells #[.int .i64 t508,.int .i64 t509,.int .i64 t510,.int .i64 t511] 31 (0,0)) (by (with_reducible repeat (first|refine y05 ?_ _|refine blk_drew ?_|refine blk_alloc ?_ _));exact BK514.out) hb);have n3_:=As0.mk (y04 (by repeat (with_reducible first|exact HB.out|apply y01|apply y00|apply y02|refine y03 ?_ GE514.out)) hb);clear HO_6;clear BK514;clear HB;have HO_6:=n0_;have HO529:=n1_;have BK514:=n2_;have HB:=n3_;clear n0_ n1_ n2_ n3_;(try clear hb);(try clear hb2);(try clear hk);(try clear hi);(try clear ho0))|((with_reducible refine y0a (f:=28) rfl ?_);refine y0k (some 77) rfl rfl Tra.func28 (by kernel_rfl) rfl #[.slice A0 l0.length c0,.int .i64 1] rfl (by (try simp only [List.map_toArray,List.map_cons,List.map_nil]);first|done|rfl|(simp only [List.length_drop,List.length_take];rfl)) ?_;(with_reducible refine (mobs_Around.calls kj26 (fun k_=>k_<w.heap.size) _ _ l0 1 t531 t534 _ ?side1 A35.out).mono ?_);(case side1=>exact Kd.V_mk HC0.out (Kd.F_below (Kd.C_F (Kd.heap_int .i64) HR0.out) (by repeat (with_reducible first|exact HB.out|apply y01|apply y00|apply y02|refine y03 ?_ GE514.out))));rintro e w85 ⟨v532,rfl,ho0,hb⟩;refine ⟨_,rfl,?_⟩;have n0_:=As0.mk (Kd.R_elder' (by (with_reducible repeat (first|apply Kd.R_alloc|apply Kd.R_drewN|apply Kd.R_drew));exact HO_6.out) (Kd.R_base ho0) hb);have n1_:=As0.mk (Kd.R_elder' (by (with_reducible repeat (first|apply Kd.R_alloc|apply Kd.R_drewN|apply Kd.R_drew));exact HO529.out) (Kd.R_base ho0) hb);have n2_:=As0.mk (Kd.R_lower (Kd.R_new' (Kd.R_new' (Kd.R_mono (ok':=fun k_=>True) ho0 (fun _ hk_=>trivial)) (Kd.R_lt (by (with_reducible repeat (first|apply Kd.R_alloc|apply Kd.R_drewN|apply Kd.R_drew));exact HO_6.out))) (Kd.R_lt (by (with_reducible repeat (first|apply Kd.R_alloc|apply Kd.R_drewN|apply Kd.R_drew));exact HO529.out))) (y06 (by repeat (with_reducible first|exact HB.out|apply y01|apply y00|apply y02|refine y03 ?_ GE514.out))));have n3_:=As0.mk (y0f (g:=gb514) (o:=.cells #[.int .i64 t508,.int .i64 t509,.int .i64 t510,.int .i64 t511] 31 (0,0)) (by (with_reducible repeat (first|refine y05 ?_ _|refine blk_drew ?_|refine blk_alloc ?_ _));exact BK514.out) hb);have n4_:=As0.mk (y04 (by repeat (with_reducible first|exact HB.out|apply y01|apply y00|apply y02|refine y03 ?_ GE514.out)) hb);clear HO_6;clear HO529;clear BK514;clear HB;have HO_6:=n0_;have HO529:=n1_;have HO533:=n2_;have BK514:=n3_;have HB:=n4_;clear n0_ n1_ n2_ n3_ n4_;(try clear hb);(try clear hb2);(try clear hk);(try clear hi);(try clear ho0)))
              go_ret
              exact ⟨by first|rfl|(simp [y08,y07]<;>rfl)|(simp [*,y08,y07]<;>rfl),by repeat (with_reducible first|exact HB.out|apply y01|apply y00|apply y02|refine y03 ?_ GE514.out)⟩
            ·rw [if_neg c37] at H
             have c37b0:(t530 == 0)=false:=beq_eq_false_iff_ne.mpr c37;have c37b1:(t530 != 0)=true:=bne_iff_ne.mpr c37;obtain rfl:=zSi H;obtain ⟨Ao86,co86,eo86⟩:=Kd.R_slice HO_6.out;subst eo86;go_wp2_with (first|((with_reducible refine y0a (f:=23) rfl ?_);refine y0k (some 66) rfl rfl Tra.func23 (by kernel_rfl) rfl #[.slice Ao86 t515.length co86] rfl (by (try simp only [List.map_toArray,List.map_cons,List.map_nil]);first|done|rfl|(simp only [List.length_drop,List.length_take];rfl)) ?_;(with_reducible refine (mobs_Crossed.calls kj26 (fun k_=>some k_=(.slice Ao86 t515.length co86:Value).ownBlock) _ _ t515 t521 t522 t523 t524 t525 t526 _ ?side1 A33.out).mono ?_);(case side1=>exact Kd.R_V (Kd.R_tight rfl (Kd.R_types (HO_6.out) BK514.out (by decide))));rintro e w87 ⟨rfl,hb⟩;refine ⟨_,rfl,?_⟩;have n0_:=As0.mk (Kd.R_below (by (with_reducible repeat (first|apply Kd.R_alloc|apply Kd.R_drewN|apply Kd.R_drew));exact HO_6.out) hb);have n1_:=As0.mk (y0f (g:=gb514) (o:=.cells #[.int .i64 t508,.int .i64 t509,.int .i64 t510,.int .i64 t511] 31 (0,0)) (by (with_reducible repeat (first|refine y05 ?_ _|refine blk_drew ?_|refine blk_alloc ?_ _));exact BK514.out) hb);have n2_:=As0.mk (y04 (by repeat (with_reducible first|exact HB.out|apply y01|apply y00|apply y02|refine y03 ?_ GE514.out)) hb);clear HO_6;clear BK514;clear HB;have HO_6:=n0_;have BK514:=n1_;have HB:=n2_;clear n0_ n1_ n2_;(try clear hb);(try clear hb2);(try clear hk);(try clear hi))|((with_reducible refine y0a (f:=25) rfl ?_);refine y0k (some 72) rfl rfl Tra.func25 (by kernel_rfl) rfl #[.slice Ao86 t515.length co86] rfl (by (try simp only [List.map_toArray,List.map_cons,List.map_nil]);first|done|rfl|(simp only [List.length_drop,List.length_take];rfl)) ?_;(with_reducible refine (mobs_Between.calls kj26 (fun k_=>some k_=(.slice Ao86 t515.length co86:Value).ownBlock) _ _ t515 t527 t530 _ ?side1 A34.out).mono ?_);(case side1=>exact Kd.R_V (Kd.R_tight rfl (Kd.R_types (HO_6.out) BK514.out (by decide))));rintro e w88 ⟨v528,rfl,ho0,hb⟩;refine ⟨_,rfl,?_⟩;have n0_:=As0.mk (Kd.R_elder' (by (with_reducible repeat (first|apply Kd.R_alloc|apply Kd.R_drewN|apply Kd.R_drew));exact HO_6.out) (Kd.R_base ho0) hb);have n1_:=As0.mk (Kd.R_lower (Kd.R_new' (Kd.R_mono (ok':=fun k_=>True) ho0 (fun _ hk_=>trivial)) (Kd.R_lt (by (with_reducible repeat (first|apply Kd.R_alloc|apply Kd.R_drewN|apply Kd.R_drew));exact HO_6.out))) (y06 (by repeat (with_reducible first|exact HB.out|apply y01|apply y00|apply y02|refine y03 ?_ GE514.out))));have n2_:=As0.mk (y0f (g:=gb514) (o:=.cells #[.int .i64 t508,.int .i64 t509,.int .i64 t510,.int .i64 t511] 31 (0,0)) (by (with_reducible repeat (first|refine y05 ?_ _|refine blk_drew ?_|refine blk_alloc ?_ _));exact BK514.out) hb);have n3_:=As0.mk (y04 (by repeat (with_reducible first|exact HB.out|apply y01|apply y00|apply y02|refine y03 ?_ GE514.out)) hb);clear HO_6;clear BK514;clear HB;have HO_6:=n0_;have HO529:=n1_;have BK514:=n2_;have HB:=n3_;clear n0_ n1_ n2_ n3_;(try clear hb);(try clear hb2);(try clear hk);(try clear hi);(try clear ho0))|((with_reducible refine y0a (f:=28) rfl ?_);refine y0k (some 77) rfl rfl Tra.func28 (by kernel_rfl) rfl #[.slice A0 l0.length c0,.int .i64 1] rfl (by (try simp only [List.map_toArray,List.map_cons,List.map_nil]);first|done|rfl|(simp only [List.length_drop,List.length_take];rfl)) ?_;(with_reducible refine (mobs_Around.calls kj26 (fun k_=>k_<w.heap.size) _ _ l0 1 t531 t534 _ ?side1 A35.out).mono ?_);(case side1=>exact Kd.V_mk HC0.out (Kd.F_below (Kd.C_F (Kd.heap_int .i64) HR0.out) (by repeat (with_reducible first|exact HB.out|apply y01|apply y00|apply y02|refine y03 ?_ GE514.out))));rintro e w89 ⟨v532,rfl,ho0,hb⟩;refine ⟨_,rfl,?_⟩;have n0_:=As0.mk (Kd.R_elder' (by (with_reducible repeat (first|apply Kd.R_alloc|apply Kd.R_drewN|apply Kd.R_drew));exact HO_6.out) (Kd.R_base ho0) hb);have n1_:=As0.mk (Kd.R_elder' (by (with_reducible repeat (first|apply Kd.R_alloc|apply Kd.R_drewN|apply Kd.R_drew));exact HO529.out) (Kd.R_base ho0) hb);have n2_:=As0.mk (Kd.R_lower (Kd.R_new' (Kd.R_new' (Kd.R_mono (ok':=fun k_=>True) ho0 (fun _ hk_=>trivial)) (Kd.R_lt (by (with_reducible repeat (first|apply Kd.R_alloc|apply Kd.R_drewN|apply Kd.R_drew));exact HO_6.out))) (Kd.R_lt (by (with_reducible repeat (first|apply Kd.R_alloc|apply Kd.R_drewN|apply Kd.R_drew));exact HO529.out))) (y06 (by repeat (with_reducible first|exact HB.out|apply y01|apply y00|apply y02|refine y03 ?_ GE514.out))));have n3_:=As0.mk (y0f (g:=gb514) (o:=.cells #[.int .i64 t508,.int .i64 t509,.int .i64 t510,.int .i64 t511] 31 (0,0)) (by (with_reducible repeat (first|refine y05 ?_ _|refine blk_drew ?_|refine blk_alloc ?_ _));exact BK514.out) hb);have n4_:=As0.mk (y04 (by repeat (with_reducible first|exact HB.out|apply y01|apply y00|apply y02|refine y03 ?_ GE514.out)) hb);clear HO_6;clear HO529;clear BK514;clear HB;have HO_6:=n0_;have HO529:=n1_;have HO533:=n2_;have BK514:=n3_;have HB:=n4_;clear n0_ n1_ n2_ n3_ n4_;(try clear hb);(try clear hb2);(try clear hk);(try clear hi);(try clear ho0)))
             go_ret
             exact ⟨by first|rfl|(simp [y08,y07]<;>rfl)|(simp [*,y08,y07]<;>rfl),by repeat (with_reducible first|exact HB.out|apply y01|apply y00|apply y02|refine y03 ?_ GE514.out)⟩
           ·rw [if_neg c36] at H
            have c36b0:(t526 == 0)=false:=beq_eq_false_iff_ne.mpr c36;have c36b1:(t526 != 0)=true:=bne_iff_ne.mpr c36;obtain rfl:=zSi H;obtain ⟨Ao90,co90,eo90⟩:=Kd.R_slice HO_6.out;subst eo90;go_wp2_with (first|((with_reducible refine y0a (f:=23) rfl ?_);refine y0k (some 66) rfl rfl Tra.func23 (by kernel_rfl) rfl #[.slice Ao90 t515.length co90] rfl (by (try simp only [List.map_toArray,List.map_cons,List.map_nil]);first|done|rfl|(simp only [List.length_drop,List.length_take];rfl)) ?_;(with_reducible refine (mobs_Crossed.calls kj26 (fun k_=>some k_=(.slice Ao90 t515.length co90:Value).ownBlock) _ _ t515 t521 t522 t523 t524 t525 t526 _ ?side1 A33.out).mono ?_);(case side1=>exact Kd.R_V (Kd.R_tight rfl (Kd.R_types (HO_6.out) BK514.out (by decide))));rintro e w91 ⟨rfl,hb⟩;refine ⟨_,rfl,?_⟩;have n0_:=As0.mk (Kd.R_below (by (with_reducible repeat (first|apply Kd.R_alloc|apply Kd.R_drewN|apply Kd.R_drew));exact HO_6.out) hb);have n1_:=As0.mk (y0f (g:=gb514) (o:=.cells #[.int .i64 t508,.int .i64 t509,.int .i64 t510,.int .i64 t511] 31 (0,0)) (by (with_reducible repeat (first|refine y05 ?_ _|refine blk_drew ?_|refine blk_alloc ?_ _));exact BK514.out) hb);have n2_:=As0.mk (y04 (by repeat (with_reducible first|exact HB.out|apply y01|apply y00|apply y02|refine y03 ?_ GE514.out)) hb);clear HO_6;clear BK514;clear HB;have HO_6:=n0_;have BK514:=n1_;have HB:=n2_;clear n0_ n1_ n2_;(try clear hb);(try clear hb2);(try clear hk);(try clear hi))|((with_reducible refine y0a (f:=25) rfl ?_);refine y0k (some 72) rfl rfl Tra.func25 (by kernel_rfl) rfl #[.slice Ao90 t515.length co90] rfl (by (try simp only [List.map_toArray,List.map_cons,List.map_nil]);first|done|rfl|(simp only [List.length_drop,List.length_take];rfl)) ?_;(with_reducible refine (mobs_Between.calls kj26 (fun k_=>some k_=(.slice Ao90 t515.length co90:Value).ownBlock) _ _ t515 t527 t530 _ ?side1 A34.out).mono ?_);(case side1=>exact Kd.R_V (Kd.R_tight rfl (Kd.R_types (HO_6.out) BK514.out (by decide))));rintro e w92 ⟨v528,rfl,ho0,hb⟩;refine ⟨_,rfl,?_⟩;have n0_:=As0.mk (Kd.R_elder' (by (with_reducible repeat (first|apply Kd.R_alloc|apply Kd.R_drewN|apply Kd.R_drew));exact HO_6.out) (Kd.R_base ho0) hb);have n1_:=As0.mk (Kd.R_lower (Kd.R_new' (Kd.R_mono (ok':=fun k_=>True) ho0 (fun _ hk_=>trivial)) (Kd.R_lt (by (with_reducible repeat (first|apply Kd.R_alloc|apply Kd.R_drewN|apply Kd.R_drew));exact HO_6.out))) (y06 (by repeat (with_reducible first|exact HB.out|apply y01|apply y00|apply y02|refine y03 ?_ GE514.out))));have n2_:=As0.mk (y0f (g:=gb514) (o:=.cells #[.int .i64 t508,.int .i64 t509,.int .i64 t510,.int .i64 t511] 31 (0,0)) (by (with_reducible repeat (first|refine y05 ?_ _|refine blk_drew ?_|refine blk_alloc ?_ _));exact BK514.out) hb);have n3_:=As0.mk (y04 (by repeat (with_reducible first|exact HB.out|apply y01|apply y00|apply y02|refine y03 ?_ GE514.out)) hb);clear HO_6;clear BK514;clear HB;have HO_6:=n0_;have HO529:=n1_;have BK514:=n2_;have HB:=n3_;clear n0_ n1_ n2_ n3_;(try clear hb);(try clear hb2);(try clear hk);(try clear hi);(try clear ho0))|((with_reducible refine y0a (f:=28) rfl ?_);refine y0k (some 77) rfl rfl Tra.func28 (by kernel_rfl) rfl #[.slice A0 l0.length c0,.int .i64 1] rfl (by (try simp only [List.map_toArray,List.map_cons,List.map_nil]);first|done|rfl|(simp only [List.length_drop,List.length_take];rfl)) ?_;(with_reducible refine (mobs_Around.calls kj26 (fun k_=>k_<w.heap.size) _ _ l0 1 t531 t534 _ ?side1 A35.out).mono ?_);(case side1=>exact Kd.V_mk HC0.out (Kd.F_below (Kd.C_F (Kd.heap_int .i64) HR0.out) (by repeat (with_reducible first|exact HB.out|apply y01|apply y00|apply y02|refine y03 ?_ GE514.out))));rintro e w93 ⟨v532,rfl,ho0,hb⟩;refine ⟨_,rfl,?_⟩;have n0_:=As0.mk (Kd.R_elder' (by (with_reducible repeat (first|apply Kd.R_alloc|apply Kd.R_drewN|apply Kd.R_drew));exact HO_6.out) (Kd.R_base ho0) hb);have n1_:=As0.mk (Kd.R_elder' (by (with_reducible repeat (first|apply Kd.R_alloc|apply Kd.R_drewN|apply Kd.R_drew));exact HO529.out) (Kd.R_base ho0) hb);have n2_:=As0.mk (Kd.R_lower (Kd.R_new' (Kd.R_new' (Kd.R_mono (ok':=fun k_=>True) ho0 (fun _ hk_=>trivial)) (Kd.R_lt (by (with_reducible repeat (first|apply Kd.R_alloc|apply Kd.R_drewN|apply Kd.R_drew));exact HO_6.out))) (Kd.R_lt (by (with_reducible repeat (first|apply Kd.R_alloc|apply Kd.R_drewN|apply Kd.R_drew));exact HO529.out))) (y06 (by repeat (with_reducible first|exact HB.out|apply y01|apply y00|apply y02|refine y03 ?_ GE514.out))));have n3_:=As0.mk (y0f (g:=gb514) (o:=.cells #[.int .i64 t508,.int .i64 t509,.int .i64 t510,.int .i64 t511] 31 (0,0)) (by (with_reducible repeat (first|refine y05 ?_ _|refine blk_drew ?_|refine blk_alloc ?_ _));exact BK514.out) hb);have n4_:=As0.mk (y04 (by repeat (with_reducible first|exact HB.out|apply y01|apply y00|apply y02|refine y03 ?_ GE514.out)) hb);clear HO_6;clear HO529;clear BK514;clear HB;have HO_6:=n0_;have HO529:=n1_;have HO533:=n2_;have BK514:=n3_;have HB:=n4_;clear n0_ n1_ n2_ n3_ n4_;(try clear hb);(try clear hb2);(try clear hk);(try clear hi);(try clear ho0)))
            go_ret
            exact ⟨by first|rfl|(simp [y08,y07]<;>rfl)|(simp [*,y08,y07]<;>rfl),by repeat (with_reducible first|exact HB.out|apply y01|apply y00|apply y02|refine y03 ?_ GE514.out)⟩
def w6_MobsKreweras.Pure:Prop:=∀ (l0:List Int),l0.length≤maxLen->l0.length * 8≤140737488351232->(∀ x ∈ l0,(Lit.int .i64 x).wf=true)->∃ k,w6_MobsKreweras.f k l0=some true
theorem w6_MobsKreweras.walk (P:w6_MobsKreweras.Pure) (a0:Option Addr) (len0 cap0:Nat) (z0:List Int) (w:World) (w0:(a0=none∧len0=0∧cap0=0∧z0=[])∨∃ x,a0=some x∧len0≤cap0∧cap0≤maxLen∧z0.length=cap0∧(∀ i,i<z0.length->w.cell? (x.add i)=some (.int .i64 (z0.getD i 0)))∧∀ n ∈ z0,(Lit.int .i64 n).wf=true) (y0:len0 * 8≤140737488351232) :
  Calls Tra.prog 6 #[.slice a0 len0 cap0] w fun e w'=>e=.returned (.bool true)∧Below w.heap.size w w':=by
 obtain ⟨l0,rfl,hr0,hm0,hw0,hc0⟩:=ReadsInt.ofRowC w0;obtain ⟨k,h⟩:=P l0 hm0 y0 hw0;refine (w6_MobsKreweras.calls k _ _ l0 true w (Kd.C_of_reads (d:=(0:Int)) (h1:=fun _=>rfl) hr0) hc0 h).mono ?_
 rintro e w' ⟨rfl,hd⟩
 exact ⟨rfl,hd⟩
end Go.Proofs.Ytdhgeondbnpeoaa.P
namespace Go.Proofs.Ytdhgeondbnpeoaa.Pl
open Go.RowKit Go.Proofs.Ytdhgeondbnpeoaa.P Go.Proofs.Yw.Wd Go.Proofs.Yw.La
section
def rgs:Int->List Int->Bool
 |_,[]=>true
 |m,x :: l=>decide (0≤x) && (decide (x≤m) && rgs (if x=m then m+1 else m) l)
def isP (l:List Int):Bool:=decide (l.length≤12) && rgs 0 l
theorem w64 {x:Int} (h0:-1000000000≤x) (h1:x≤1000000000):wrap64 x=x:=by unfold wrap64;omega
theorem y7p {l:List Int} {i:Nat} (h:i<l.length):rd l (i:Int)=l[i]:=by simp [rd,List.getD_eq_getElem?_getD,List.getElem?_eq_getElem h]
theorem ref_l (l:List Int) (hn:l.length≤12):∀ (j i k:Nat) (m:Int),i+j=l.length->2 * j+2≤k->0≤m->m≤i->r6_IsParting.l0 k l m (i:Int)=some (rgs m (l.drop i))
 |0,i,k+1,m,hi,hk,h0,h1=>by
  unfold r6_IsParting.l0;rw [if_neg (by omega),List.drop_of_length_le (by omega)];rfl
 |j+1,i,k+2,m,hi,hk,h0,h1=>by
  have hlt:i<l.length:=by omega
  unfold r6_IsParting.l0;rw [if_pos (by omega),if_pos (by omega),y7p hlt,List.drop_eq_getElem_cons hlt];unfold rgs r6_IsParting.j1
  by_cases hx:l[i]<0
  ·rw [if_pos hx,if_pos rfl,zDf (by omega)]
   rfl
  ·rw [if_neg hx,zDt (show 0≤l[i] by omega)]
   by_cases hm:l[i] > m
   ·rw [zDt hm,if_pos rfl,zDf (by omega)]
    rfl
   ·rw [zDf hm,if_neg (by decide),if_pos (by omega),if_pos (by omega),y7p hlt,zDt (show l[i]≤m by omega)]
    simp only [Bool.true_and]
    by_cases he:l[i]=m
    ·rw [if_pos he,if_pos he,w64 (by omega) (by omega),w64 (by omega) (by omega)]
     exact ref_l l hn j (i+1) k (m+1) (by omega) (by omega) (by omega) (by omega)
    ·rw [if_neg he,if_neg he,w64 (x:=(i:Int)+1) (by omega) (by omega)]
     exact ref_l l hn j (i+1) k m (by omega) (by omega) (by omega) (by omega)
theorem ya1 (l:List Int) {k:Nat} (hk:30≤k):r6_IsParting.f k l=some (isP l):=by
 unfold r6_IsParting.f isP
 by_cases h:l.length≤12
 ·have h1:r6_IsParting.l0 k l 0 0=_:=ref_l l h l.length 0 k 0 (by omega) (by omega) (by omega) (by omega)
  rw [if_neg (by omega),zDt h,h1];rfl
 ·rw [if_pos (by omega),zDf h]
  rfl
theorem ydj (l:List Int) (hn:l.length≤12):∀ (j i k:Nat) (m:Int),i+j=l.length->j+1≤k->0≤m->m≤i->mobs_IsParting.l0 k m l (l.length:Int) (i:Int)=some (rgs m (l.drop i))
 |0,i,k+1,m,hi,hk,h0,h1=>by
  unfold mobs_IsParting.l0;rw [if_neg (by omega),List.drop_of_length_le (by omega)];rfl
 |j+1,i,k+1,m,hi,hk,h0,h1=>by
  have hlt:i<l.length:=by omega
  unfold mobs_IsParting.l0;rw [if_pos (by omega),if_pos (by omega),if_pos (by omega),y7p hlt,List.drop_eq_getElem_cons hlt];unfold rgs
  by_cases hx:l[i]<0
  ·rw [if_pos hx,zDf (by omega)]
   rfl
  ·rw [if_neg hx,zDt (show 0≤l[i] by omega)]
   by_cases hm:l[i] > m
   ·rw [if_pos hm,zDf (by omega)]
    rfl
   ·rw [if_neg hm,zDt (show l[i]≤m by omega),w64 (x:=l[i]+1) (by omega) (by omega),w64 (x:=(i:Int)+1) (by omega) (by omega)]
    simp only [Bool.true_and];have e:mx m (l[i]+1)=if l[i]=m then m+1 else m:=by
     unfold mx;split<;>split<;>omega
    rw [e];split
    ·exact ydj l hn j (i+1) k (m+1) (by omega) (by omega) (by omega) (by omega)
    ·exact ydj l hn j (i+1) k m (by omega) (by omega) (by omega) (by omega)
theorem yj0 (l:List Int) {k:Nat} (hk:20≤k):mobs_IsParting.f k l=some (isP l):=by
 unfold mobs_IsParting.f isP
 by_cases h:l.length≤12
 ·have h1:mobs_IsParting.l0 k 0 l (l.length:Int) 0=_:=ydj l h l.length 0 k 0 (by omega) (by omega) (by omega) (by omega)
  rw [if_neg (by omega),zDt h,h1];rfl
 ·rw [if_pos (by omega),zDf h]
  rfl
theorem y30 {l:List Int} (h:isP l=true):l.length≤12:=by
 simp only [isP,Bool.and_eq_true,decide_eq_true_eq] at h;exact h.1
theorem y4v (l:List Int) (i:Nat):rd l (i:Int)=l.getD i 0:=rfl
theorem same_l (a b:List Int) (hl:a.length=b.length) (hn:a.length≤40):∀ (d i k:Nat),i+d=a.length->d+1≤k->w6_same.l0 k a b (i:Int)=some (decide (a.drop i=b.drop i))
 |0,i,k+1,hi,hk=>by
  unfold w6_same.l0;rw [if_neg (by omega),List.drop_of_length_le (by omega),List.drop_of_length_le (by omega),zDt rfl]
 |d+1,i,k+1,hi,hk=>by
  have h1:i<a.length:=by omega
  have h2:i<b.length:=by omega
  unfold w6_same.l0;rw [if_pos (by omega),if_pos (by omega),if_pos (by omega),y7p h1,y7p h2,List.drop_eq_getElem_cons h1,List.drop_eq_getElem_cons h2,w64 (x:=(i:Int)+1) (by omega) (by omega)]
  by_cases he:a[i]=b[i]
  ·rw [if_pos he]
   have ih:=same_l a b hl hn d (i+1) k (by omega) (by omega);rw [show ((i+1:Nat):Int)=(i:Int)+1 by omega] at ih;rw [ih]
   congr 1
   rw [Bool.eq_iff_iff,decide_eq_true_iff,decide_eq_true_iff,List.cons.injEq];exact ⟨fun h=>⟨he,h⟩,fun h=>h.2⟩
  ·rw [if_neg he]
   congr 1
   rw [eq_comm,decide_eq_false_iff_not,List.cons.injEq];exact fun h=>he h.1
theorem same_f {a b:List Int} (hn:a.length≤40) {k:Nat} (hk:50≤k):w6_same.f k a b=some (decide (a=b)):=by
 unfold w6_same.f
 by_cases hl:a.length=b.length
 ·rw [if_pos (by omega)]
  have h:=same_l a b hl hn a.length 0 k (by omega) (by omega);simpa using h
 ·rw [if_neg (by omega)]
  congr 1
  rw [eq_comm,decide_eq_false_iff_not];exact fun h=>hl (congrArg _ h)
end
section
def TB (t:List (List Int)) (left m:Nat):Int:=(t.getD left []).getD m 0
def nx (m x:Int):Int:=if x=m then m+1 else m
def st (m:Int) (l:List Int):Int:=l.foldl nx m
theorem mx_nx {m x:Int} (h:x≤m):mx m (x+1)=nx m x:=by
 unfold mx nx;split<;>split<;>omega
theorem nx_bd {m x:Int}:m≤nx m x∧nx m x≤m+1:=by
 unfold nx;split<;>omega
theorem y5p:∀ (l:List Int) (m:Int) (i:Nat),rgs m l=true->0≤m->rgs m (l.take i)=true∧rgs (st m (l.take i)) (l.drop i)=true∧m≤st m (l.take i)∧st m (l.take i)≤m+i
 |l,m,0,h,_=>by simp [st,rgs,h]
 |[],m,i+1,h,_=>by simp [st,rgs];omega
 |x :: l,m,i+1,h,h0=>by
  simp only [rgs,Bool.and_eq_true,decide_eq_true_eq] at h;obtain ⟨h1,h2,h3⟩:=h;have hb:=@nx_bd m x;have h3':rgs (nx m x) l=true:=h3;obtain ⟨a1,a2,a3,a4⟩:=y5p l (nx m x) i h3' (by omega);refine ⟨?_,a2,?_,?_⟩
  ·simp only [List.take_succ_cons,rgs,Bool.and_eq_true,decide_eq_true_eq]
   exact ⟨h1,h2,a1⟩
  ·show m≤st (nx m x) (l.take i)
   omega
  ·show st (nx m x) (l.take i)≤_
   omega
theorem st_snoc {l:List Int} {i:Nat} (h:i<l.length) (m:Int):st m (l.take (i+1))=nx (st m (l.take i)) l[i]:=by
 unfold st;rw [List.take_succ_eq_append_getElem h,List.foldl_append];rfl
theorem many_l (p:List Int) (hn:p.length≤12):∀ (d j k:Nat) (m:Int),j+d=p.length->d+1≤k->0≤m->m≤j->rgs m (p.drop j)=true->r6_Many.l0 k p m (j:Int)=some (st m (p.drop j))
 |0,j,k+1,m,hj,hk,h0,h1,hr=>by
  unfold r6_Many.l0;rw [if_neg (by omega),List.drop_of_length_le (by omega)];rfl
 |d+1,j,k+1,m,hj,hk,h0,h1,hr=>by
  have hlt:j<p.length:=by omega
  rw [List.drop_eq_getElem_cons hlt] at hr ⊢;simp only [rgs,Bool.and_eq_true,decide_eq_true_eq] at hr;obtain ⟨r1,r2,r3⟩:=hr;have hb:=@nx_bd m p[j];unfold r6_Many.l0;rw [if_pos (by omega),if_pos (by omega),y7p hlt,w64 (x:=p[j]+1) (by omega) (by omega),w64 (x:=(j:Int)+1) (by omega) (by omega),mx_nx r2];exact many_l p hn d (j+1) k (nx m p[j]) (by omega) (by omega) (by omega) (by omega) r3
theorem many_f {p:List Int} (hn:p.length≤12) (hr:rgs 0 p=true) {k:Nat} (hk:20≤k):r6_Many.f k p=some (st 0 p):=by
 have h:r6_Many.l0 k p 0 0=_:=many_l p hn p.length 0 k 0 (by omega) (by omega) (by omega) (by omega) (by simpa using hr);unfold r6_Many.f;rw [h];rfl
theorem y49 (l:List Int) {k:Nat} (hk:30≤k):mobs_read.f k [l]=some (if l.length≤12 then (if isP l=true then 0 else 2) else 3):=by
 obtain ⟨k,rfl⟩:∃ j,k=j+2:=⟨k - 2,by omega⟩
 have e0:y1h [l] 0=l:=rfl;have w1:wrap64 (0+1)=1:=by rw [w64 (by omega) (by omega)];rfl
 unfold mobs_read.f;simp only [List.length_cons,List.length_nil];unfold mobs_read.l0;rw [if_pos (by decide),if_pos (by decide),if_pos (by simp),e0]
 by_cases hl:l.length≤12
 ·rw [if_neg (by omega),if_pos hl,yj0 l (by omega)]
  simp only [Option.bind_some]
  by_cases hp:isP l=true
  ·rw [if_pos hp,if_pos hp,w1]
   unfold mobs_read.l0;rw [if_neg (by decide),if_neg (by simp)]
  ·rw [if_neg hp,if_neg hp]
 ·rw [if_pos (by omega),if_neg hl]
end
end Go.Proofs.Ytdhgeondbnpeoaa.Pl
namespace Go.Proofs.Ytdhgeondbnpeoaa.Pl
open Go.RowKit Go.Proofs.Ytdhgeondbnpeoaa.P Go.Proofs.Yw.Wd Go.Proofs.Yw.La Go.Proofs.Ytdhgeondbnpeoaa.Ext
def Ev (p:Nat->Prop):Prop:=∃ k0,∀ k,k0≤k->p k
theorem Ev.and {p q:Nat->Prop} (h:Ev p) (h':Ev q):Ev fun k=>p k∧q k:=by
 obtain ⟨a,ha⟩:=h;obtain ⟨b,hb⟩:=h';exact ⟨a+b,fun k hk=>⟨ha k (by omega),hb k (by omega)⟩⟩
theorem Ev.step {p q:Nat->Prop} (h:Ev p) (hs:∀ k,p k->q (k+1)):Ev q:=by
 obtain ⟨a,ha⟩:=h;refine ⟨a+1,fun k hk=>?_⟩;obtain ⟨j,rfl⟩:∃ j,k=j+1:=⟨k - 1,by omega⟩
 exact hs j (ha j (by omega))
theorem Ev.mono {p q:Nat->Prop} (h:Ev p) (hs:∀ k,p k->q k):Ev q:=by
 obtain ⟨a,ha⟩:=h;exact ⟨a,fun k hk=>hs k (ha k hk)⟩
theorem Ev.all {p:Nat->Prop} (h:∀ k,p k):Ev p:=⟨0,fun k _=>h k⟩
theorem Ev.next {q:Nat->Prop} (h:∀ k,q (k+1)):Ev q:=(Ev.all (p:=fun _=>True) fun _=>trivial).step fun k _=>h k
theorem Ev.ge {p:Nat->Prop} (n:Nat) (h:∀ k,n≤k->p k):Ev p:=⟨n,h⟩
theorem Ev.ex {p:Nat->Prop} (h:Ev p):∃ k,p k:=by
 obtain ⟨a,ha⟩:=h;exact ⟨a,ha a (zLe _)⟩
theorem y40 {α:Type} {p:List α->Prop} (h0:p []) (h1:∀ l x,p l->p (l ++ [x])) (l:List α):p l:=by
 have h:∀ r:List α,p r.reverse:=by
  intro r
  induction r with
  |nil=>exact h0
  |cons x r ih =>
   rw [List.reverse_cons];exact h1 _ _ ih
 simpa using h l.reverse
section
variable {α:Type} [DecidableEq α]
def y22 (l:List α):List α:=(y1r l).1
theorem y4d (l:List α) (x:α):y22 (l ++ [x])=met (y22 l) x:=by
 unfold y22;rw [y4k];rfl
theorem y91 (l:List α) (x:α):numL (l ++ [x])=numL l ++ [((met (y22 l) x).idxOf x:Int)]:=by
 unfold y22 numL;rw [y4k];rfl
theorem mem_met {S:List α} {x y:α}:y ∈ met S x ↔ y ∈ S∨y=x:=by
 unfold met;split
 ·rename_i h
  exact ⟨Or.inl,fun h'=>h'.elim id fun e=>e ▸ h⟩
 ·simp
theorem y56 {x:α} (l:List α):x ∈ y22 l ↔ x ∈ l:=by
 refine y40 (p:=fun l=>x ∈ y22 l ↔ x ∈ l) (by simp [y22,y1r]) (fun l y ih=>?_) l;rw [y4d,mem_met,ih];simp
theorem met_idx {S:List α} {x y:α} (h:y ∈ S):(met S x).idxOf y=S.idxOf y:=by
 unfold met;split
 ·rfl
 ·rw [List.idxOf_append,if_pos h]
theorem yiw (l:List α):numL l=l.map fun x=>(((y22 l).idxOf x:Nat):Int):=by
 refine y40 (p:=fun l=>numL l=l.map fun x=>(((y22 l).idxOf x:Nat):Int)) rfl (fun l y ih=>?_) l;rw [y91,y4d,List.map_append,ih]
 congr 1
 refine List.map_congr_left fun x hx=>?_
 rw [met_idx ((y56 l).2 hx)]
theorem yaz {l:List α} {i:Nat} (h:i<l.length):(numL l).getD i 0=(((y22 l).idxOf l[i]:Nat):Int):=by
 rw [yiw,List.getD_eq_getElem?_getD,List.getElem?_map,List.getElem?_eq_getElem h];rfl
theorem idx_inj {S:List α} {x y:α} (hx:x ∈ S) (h:S.idxOf x=S.idxOf y):x=y:=by
 have h1:S.idxOf x<S.length:=List.idxOf_lt_length_iff.2 hx;have h2:S.idxOf y<S.length:=h ▸ h1;rw [← List.getElem_idxOf h1,← List.getElem_idxOf h2];simp only [h]
theorem yix {l:List α} {i j:Nat} (hi:i<l.length) (hj:j<l.length):(numL l).getD i 0=(numL l).getD j 0 ↔ l[i]=l[j]:=by
 rw [yaz hi,yaz hj];refine ⟨fun h=>idx_inj ((y56 l).2 (List.getElem_mem hi)) (by omega),fun h=>by rw [h]⟩
theorem st_app (m:Int) (l:List Int) (x:Int):st m (l ++ [x])=nx (st m l) x:=by
 unfold st;rw [List.foldl_append];rfl
theorem y9q:∀ (l:List Int) (m x:Int),rgs m l=true->0≤x->x≤st m l->rgs m (l ++ [x])=true
 |[],m,x,_,h0,h1=>by
  simp only [List.nil_append,rgs,Bool.and_eq_true,decide_eq_true_eq];exact ⟨h0,h1,trivial⟩
 |y :: l,m,x,h,h0,h1=>by
  simp only [List.cons_append,rgs,Bool.and_eq_true,decide_eq_true_eq] at h ⊢;exact ⟨h.1,h.2.1,y9q l _ x h.2.2 h0 h1⟩
theorem y3f (l:List α):rgs 0 (numL l)=true∧st 0 (numL l)=((y22 l).length:Int):=by
 refine y40 (p:=fun l=>rgs 0 (numL l)=true∧st 0 (numL l)=((y22 l).length:Int)) ⟨rfl,rfl⟩ (fun l x ih=>?_) l;obtain ⟨h1,h2⟩:=ih;rw [y91,y4d,st_app,h2]
 by_cases hx:x ∈ y22 l
 ·have h3:=List.idxOf_lt_length_iff.2 hx
  rw [met,if_pos hx,nx,if_neg (by omega)];exact ⟨y9q _ _ _ h1 (by omega) (by omega),rfl⟩
 ·have h3:(y22 l ++ [x]).idxOf x=(y22 l).length:=by
   rw [List.idxOf_append,if_neg hx];simp
  rw [met,if_neg hx,h3,nx,if_pos rfl];exact ⟨y9q _ _ _ h1 (by omega) (by omega),by simp⟩
theorem yiy {l:List α} (h:l.length≤12):isP (numL l)=true:=by
 simp only [isP,Bool.and_eq_true,decide_eq_true_eq];exact ⟨by rw [y4c];exact h,(y3f l).1⟩
def cnt (l:List α):Nat:=(y22 l).length
theorem y82 (l:List α) (x:α):cnt (l ++ [x])=cnt l+if x ∈ l then 0 else 1:=by
 unfold cnt;rw [y4d,met]
 by_cases h:x ∈ l
 ·rw [if_pos h,if_pos ((y56 l).2 h),Nat.add_zero]
 ·rw [if_neg h,if_neg fun h'=>h ((y56 l).1 h')]
  simp
theorem yjf (x:α) (l:List α):cnt (x :: l)=cnt l+if x ∈ l then 0 else 1:=by
 refine y40 (p:=fun l=>cnt (x :: l)=cnt l+if x ∈ l then 0 else 1) rfl (fun l y ih=>?_) l;rw [← List.cons_append,y82,y82,ih]
 by_cases e:x=y
 ·subst e
  by_cases h:x ∈ l<;>simp [h]
 ·have e':¬ y=x:=fun h=>e h.symm
  by_cases h:x ∈ l<;>by_cases h':y ∈ l<;>simp [h,h',e,e']
theorem cnt_map {f:List α}:cnt f=(List.range f.length).countP fun i=>decide (∀ j,j<i->f[i]?≠f[j]?):=by
 refine y40 (p:=fun f=>cnt f=(List.range f.length).countP fun i=>decide (∀ j,j<i->f[i]?≠f[j]?)) rfl (fun l y ih=>?_) f;rw [y82,ih,List.length_append,List.length_singleton,List.range_succ,List.countP_append]
 congr 1
 ·refine List.countP_congr fun i hi=>?_
  have hi:=List.mem_range.1 hi;simp only [decide_eq_true_eq];refine forall_congr' fun j=>?_
  by_cases hj:j<i
  ·rw [List.getElem?_append_left hi,List.getElem?_append_left (by omega)]
  ·simp [hj]
 ·rw [List.countP_singleton]
  by_cases h:y ∈ l
  ·rw [if_pos h,if_neg]
   rw [decide_eq_true_iff];intro h2;obtain ⟨j,hj,e⟩:=List.getElem_of_mem h;refine h2 j hj ?_;rw [List.getElem?_append_left hj,List.getElem?_eq_getElem hj,e];simp
  ·rw [if_neg h,if_pos]
   rw [decide_eq_true_iff];intro j hj e;rw [List.getElem?_append_left hj,List.getElem?_eq_getElem hj] at e;simp at e;exact h (e ▸ List.getElem_mem hj)
end
def KE (l l':List Int):Prop:=l.length=l'.length∧∀ i j,i<l.length->j<l.length->(l.getD i 0=l.getD j 0 ↔ l'.getD i 0=l'.getD j 0)
theorem KE.symm {l l':List Int} (h:KE l l'):KE l' l:=⟨h.1.symm,fun i j hi hj=>(h.2 i j (by rw [h.1];exact hi) (by rw [h.1];exact hj)).symm⟩
theorem KE.trans {l l' l'':List Int} (h:KE l l') (h':KE l' l''):KE l l'':=⟨h.1.trans h'.1,fun i j hi hj=>(h.2 i j hi hj).trans (h'.2 i j (by rw [← h.1];exact hi) (by rw [← h.1];exact hj))⟩
theorem y1t {l:List Int} {i:Nat} (h:i<l.length):l.getD i 0=l[i]:=by simp [List.getD_eq_getElem?_getD,List.getElem?_eq_getElem h]
theorem KE.num (l:List Int):KE (numL l) l:=⟨y4c l,fun i j hi hj=>by
 rw [y4c] at hi hj;rw [yix hi hj,y1t hi,y1t hj]⟩
theorem st_occ {l:List Int} (hr:rgs 0 l=true):∀ (i:Nat) (v:Int),i≤l.length->0≤v->v<st 0 (l.take i)->∃ j,j<i∧l.getD j 0=v
 |0,v,_,h0,h1=>absurd h1 (by simp [st];omega)
 |i+1,v,hi,h0,h1=>by
  rw [st_snoc (show i<l.length by omega)] at h1
  by_cases h:v<st 0 (l.take i)
  ·obtain ⟨j,hj,e⟩:=st_occ hr i v (by omega) h0 h
   exact ⟨j,by omega,e⟩
  ·unfold nx at h1
   split at h1
   ·rename_i e
    refine ⟨i,by omega,?_⟩;rw [y1t (show i<l.length by omega),e];omega
   ·omega
theorem rgs_at {l:List Int} (hr:rgs 0 l=true) {i:Nat} (hi:i<l.length):0≤l.getD i 0∧l.getD i 0≤st 0 (l.take i):=by
 obtain ⟨_,q2,_,_⟩:=y5p l 0 i hr (Int.le_refl _);rw [List.drop_eq_getElem_cons hi] at q2;simp only [rgs,Bool.and_eq_true,decide_eq_true_eq] at q2;rw [y1t hi];exact ⟨q2.1,q2.2.1⟩
theorem ycu {l:List Int} (hr:rgs 0 l=true) {i:Nat} (hi:i<l.length) (hn:∀ j,j<i->l.getD i 0≠l.getD j 0):l.getD i 0=st 0 (l.take i):=by
 obtain ⟨h0,h1⟩:=rgs_at hr hi
 by_cases h:l.getD i 0=st 0 (l.take i)
 ·exact h
 ·obtain ⟨j,hj,e⟩:=st_occ hr i (l.getD i 0) (by omega) h0 (by omega)
  exact absurd e.symm (hn j hj)
theorem KE.eq {l l':List Int} (h:KE l l') (hr:rgs 0 l=true) (hr':rgs 0 l'=true):l=l':=by
 have hp:∀ i,i≤l.length->l.take i=l'.take i:=by
  intro i
  induction i with
  |zero=>intro _;rfl
  |succ i ih =>
   intro hi;have e:=ih (by omega);have h1:i<l.length:=by omega
   have h2:i<l'.length:=by rw [← h.1];exact h1
   have hj':∀ j,j<i->l.getD j 0=l'.getD j 0:=by
    intro j hj;have e1:=congrArg (fun t=>t.getD j 0) e;simp only [List.getD_eq_getElem?_getD,List.getElem?_take,if_pos hj] at e1;simpa [List.getD_eq_getElem?_getD] using e1
   have hv:l.getD i 0=l'.getD i 0:=by
    by_cases hx:∃ j,j<i∧l.getD i 0=l.getD j 0
    ·obtain ⟨j,hj,e1⟩:=hx
     rw [(h.2 i j h1 (by omega)).1 e1,e1,hj' j hj]
    ·rw [ycu hr h1 fun j hj e1=>hx ⟨j,hj,e1⟩,ycu hr' h2 fun j hj e1=>hx ⟨j,hj,(h.2 i j h1 (by omega)).2 e1⟩,e]
   rw [List.take_succ_eq_append_getElem h1,List.take_succ_eq_append_getElem h2,e,← y1t h1,← y1t h2,hv]
 have:=hp l.length (zLe _)
 rwa [List.take_of_length_le (zLe _),List.take_of_length_le (by rw [h.1];exact zLe _)] at this
theorem ybw {l l':List Int} (h:KE l l'):numL l=numL l' :=
 (((KE.num l).trans h).trans (KE.num l').symm).eq (y3f l).1 (y3f l').1
theorem ydf {l:List Int} (hr:rgs 0 l=true):numL l=l:=(KE.num l).eq (y3f l).1 hr
theorem st_cnt {l:List Int} (hr:rgs 0 l=true):st 0 l=(cnt l:Int):=by
 have h:=(y3f l).2;rw [ydf hr] at h;exact h
theorem num_f {l:List Int} (hn:l.length≤100) (hx:∀ x ∈ l,In64 x):mobs_number_int.f l=some (numL l):=by
 unfold mobs_number_int.f;rw [if_pos ⟨hx,by omega⟩]
end Go.Proofs.Ytdhgeondbnpeoaa.Pl
namespace Go.Proofs.Ytdhgeondbnpeoaa.Pl
open Go.RowKit Go.Proofs.Ytdhgeondbnpeoaa.Ext
def UU (l:List Int) (i k:Nat):Prop:=∀ x y,x<l.length->y<l.length->l.getD x 0=l.getD y 0->i<x->x≤k->i<y∧y≤k
def XX (l:List Int):Prop:=∃ a b c d,a<b∧b<c∧c<d∧d<l.length∧l.getD a 0=l.getD c 0∧l.getD b 0=l.getD d 0∧l.getD a 0≠l.getD b 0
theorem KE.uu {l l':List Int} (h:KE l l') {i k:Nat} (u:UU l i k):UU l' i k:=fun x y hx hy e h1 h2=>u x y (by rw [h.1];exact hx) (by rw [h.1];exact hy) ((h.2 x y (by rw [h.1];exact hx) (by rw [h.1];exact hy)).2 e) h1 h2
theorem KE.xx {l l':List Int} (h:KE l l') (u:XX l):XX l':=by
 obtain ⟨a,b,c,d,h1,h2,h3,h4,h5,h6,h7⟩:=u;exact ⟨a,b,c,d,h1,h2,h3,by rw [← h.1];exact h4,(h.2 a c (by omega) (by omega)).1 h5,(h.2 b d (by omega) (by omega)).1 h6,fun e=>h7 ((h.2 a b (by omega) (by omega)).2 e)⟩
theorem UU.refl (l:List Int) (k:Nat):UU l k k:=fun _ _ _ _ _ h1 h2=>absurd h1 (by omega)
theorem UU.add {l:List Int} {i j k:Nat} (h:UU l i j) (h':UU l j k) (h1:i≤j) (h2:j≤k):UU l i k:=by
 intro x y hx hy e a b
 by_cases hc:x≤j
 ·have:=h x y hx hy e a hc
  omega
 ·have:=h' x y hx hy e (by omega) b
  omega
theorem UU.low {l:List Int} {i j k:Nat} (h:UU l i k) (h':UU l j k) (h1:i≤j) (h2:j≤k) (hk:k<l.length):UU l i j:=by
 intro x y hx hy e a b;have c:=h x y hx hy e a (by omega);refine ⟨c.1,?_⟩
 by_cases hc:y≤j
 ·exact hc
 ·have:=h' y x hy hx e.symm (by omega) c.2
  omega
theorem UU.high {l:List Int} {i j k:Nat} (h:UU l i k) (h':UU l i j) (h1:i≤j) (h2:j≤k):UU l j k:=by
 intro x y hx hy e a b;have c:=h x y hx hy e (by omega) b;refine ⟨?_,c.2⟩
 by_cases hc:j<y
 ·exact hc
 ·have:=h' y x hy hx e.symm c.1 (by omega)
  omega
open Classical in
noncomputable def loR (l:List Int) (k:Nat):Nat->Nat->Nat
 |0,a=>a
 |i+1,a=>loR l k i (if UU l i k then i else a)
noncomputable def lo (l:List Int) (k:Nat):Nat:=loR l k k k
theorem ydn (l:List Int) (k:Nat):∀ (i a:Nat),i≤a->a≤k->UU l a k->(∀ j,i≤j->j<a->¬ UU l j k)->loR l k i a≤k∧UU l (loR l k i a) k∧∀ j,j<loR l k i a->¬ UU l j k
 |0,a,_,h1,h2,h3=>⟨h1,h2,fun j hj=>h3 j (Nat.zero_le _) hj⟩
 |i+1,a,h0,h1,h2,h3=>by
  unfold loR
  by_cases h:UU l i k
  ·rw [if_pos h]
   exact ydn l k i i (zLe _) (by omega) h (fun j _ _=>by omega)
  ·rw [if_neg h]
   refine ydn l k i a (by omega) h1 h2 fun j a1 a2=>?_
   by_cases e:j=i
   ·exact e ▸ h
   ·exact h3 j (by omega) a2
theorem lo_ok (l:List Int) (k:Nat):lo l k≤k∧UU l (lo l k) k∧∀ j,j<lo l k->¬ UU l j k:=ydn l k k k (zLe _) (zLe _) (UU.refl l k) fun j _ _=>by omega
theorem lo_iff {l:List Int} {i k:Nat} (h:i≤k) (hk:k<l.length):lo l i=lo l k ↔ UU l i k:=by
 obtain ⟨a1,a2,a3⟩:=lo_ok l i;obtain ⟨b1,b2,b3⟩:=lo_ok l k;refine ⟨fun e=>?_,fun u=>?_⟩
 ·rw [← e] at b2
  exact b2.high a2 a1 h
 ·have h1:lo l k≤lo l i:=by
   by_cases c:lo l k≤lo l i
   ·exact c
   ·exact absurd (a2.add u a1 h) (b3 _ (by omega))
  have h2:lo l i≤lo l k:=by
   by_cases c:lo l i≤lo l k
   ·exact c
   ·exact absurd (b2.low u (by omega) h hk) (a3 _ (by omega))
  omega
noncomputable def wi (l:List Int):List Int:=(List.range l.length).map fun k=>((lo l k:Nat):Int)
theorem y16 (l:List Int):(wi l).length=l.length:=by simp [wi]
theorem yce {l:List Int} {k:Nat} (hk:k<l.length):(wi l).getD k 0=((lo l k:Nat):Int):=by
 unfold wi;rw [List.getD_eq_getElem?_getD,List.getElem?_map,List.getElem?_range hk];rfl
theorem y34 {l:List Int} {i k:Nat} (h:i≤k) (hk:k<l.length):(wi l).getD i 0=(wi l).getD k 0 ↔ UU l i k:=by
 rw [yce (by omega),yce hk,← lo_iff h hk];omega
theorem KE.wi {l l':List Int} (h:KE l l'):KE (wi l) (wi l'):=by
 refine ⟨by rw [y16,y16,h.1],fun i j hi hj=>?_⟩;rw [y16] at hi hj;have hi':=hi;have hj':=hj;rw [h.1] at hi' hj';rcases Nat.le_total i j with c|c
 ·rw [y34 c hj,y34 c hj']
  exact ⟨h.uu,h.symm.uu⟩
 ·rw [eq_comm,y34 c hi,eq_comm,y34 c hi']
  exact ⟨h.uu,h.symm.uu⟩
theorem yh5 (l:List Int):¬ XX (wi l):=by
 rintro ⟨a,b,c,d,h1,h2,h3,h4,h5,h6,h7⟩
 rw [y16] at h4;rw [y34 (by omega) (by omega)] at h5 h6;refine h7 ((y34 (by omega) (by omega)).2 fun x y hx hy e p q=>?_);have c1:=h5 x y hx hy e p (by omega);refine ⟨c1.1,?_⟩
 by_cases hc:y≤b
 ·exact hc
 ·have:=h6 y x hy hx e.symm (by omega) (by omega)
  omega
theorem least {p:Nat->Prop}:∀ k,p k->∃ m,m≤k∧p m∧∀ j,j<m->¬ p j:=by
 intro k
 induction k using Nat.strongRecOn with
 |_ k ih =>
  intro hk
  by_cases h:∃ j,j<k∧p j
  ·obtain ⟨j,hj,hp⟩:=h
   obtain ⟨m,a,b,c⟩:=ih j hj hp;exact ⟨m,by omega,b,c⟩
  ·exact ⟨k,zLe _,hk,fun j hj hp=>h ⟨j,hj,hp⟩⟩
theorem yj7 {p:Nat->Prop} (i:Nat) (hi:p i):∀ d,∃ m,i≤m∧m≤i+d∧p m∧∀ j,m<j->j≤i+d->¬ p j:=by
 intro d
 induction d with
 |zero=>exact ⟨i,zLe _,zLe _,hi,fun j a b=>by omega⟩
 |succ d ih =>
  by_cases h:p (i+d+1)
  ·exact ⟨i+d+1,by omega,by omega,h,fun j a b=>by omega⟩
  ·obtain ⟨m,a,b,c,e⟩:=ih
   refine ⟨m,a,by omega,c,fun j h1 h2=>?_⟩
   by_cases hj:j=i+d+1
   ·exact hj ▸ h
   ·exact e j h1 (by omega)
theorem uu_mob {l:List Int} (hx:¬ XX l) {k:Nat} (hk:k<l.length) (hlast:∀ j,k<j->j<l.length->l.getD j 0≠l.getD k 0) (h0:l.getD k 0≠l.getD 0 0):∃ m,1≤m∧m≤k∧l.getD m 0=l.getD k 0∧(∀ j,j<m->l.getD j 0≠l.getD k 0)∧UU l (m - 1) k:=by
 obtain ⟨m,m1,m2,m3⟩:=least (p:=fun j=>l.getD j 0=l.getD k 0) k rfl;have m0:m≠0:=by
  intro e;rw [e] at m2;exact h0 m2.symm
 refine ⟨m,by omega,m1,m2,m3,fun x y hxl hyl e a b=>?_⟩
 by_cases hc:l.getD x 0=l.getD k 0
 ·have ey:l.getD y 0=l.getD k 0:=e ▸ hc
  refine ⟨?_,?_⟩
  ·by_cases c:m≤y
   ·omega
   ·exact absurd ey (m3 y (by omega))
  ·by_cases c:y≤k
   ·exact c
   ·exact absurd ey (hlast y (by omega) hyl)
 ·have xm:x≠m:=fun h=>hc (h ▸ m2)
  have xk:x≠k:=fun h=>hc (h ▸ rfl)
  have ym:y≠m:=fun h=>hc (by rw [e,h];exact m2)
  have yk:y≠k:=fun h=>hc (by rw [e,h])
  refine ⟨?_,?_⟩
  ·by_cases c:m≤y
   ·omega
   ·exact absurd ⟨y,m,x,k,by omega,by omega,by omega,hk,e.symm,m2,fun h=>hc (by rw [e,h,m2])⟩ hx
  ·by_cases c:y≤k
   ·exact c
   ·exact absurd ⟨m,x,k,y,by omega,by omega,by omega,hyl,m2,e,fun h=>hc (by rw [← h,m2])⟩ hx
def rot (k:Nat) (l:List Int):List Int:=l.drop k ++ l.take k
theorem yct (k:Nat) (l:List Int):(rot k l).length=l.length:=by
 simp only [rot,List.length_append,List.length_drop,List.length_take];omega
def nxt (l:List Int) (k:Nat):Nat:=if k+1=l.length then 0 else k+1
theorem yaq {l:List Int} {i:Nat} (hi:i<l.length):(rot 1 l).getD i 0=l.getD (nxt l i) 0:=by
 cases l with
 |nil=>exact absurd hi (by simp)
 |cons x t =>
  simp only [rot,List.drop_succ_cons,List.drop_zero,List.take_succ_cons,List.take_zero,nxt,List.length_cons,List.getD_eq_getElem?_getD] at hi ⊢
  by_cases h:i=t.length
  ·rw [if_pos (by omega),List.getElem?_append_right (by omega),h]
   simp
  ·rw [if_neg (by omega),List.getElem?_append_left (by omega)]
   simp
theorem yh4 {l:List Int} (hx:¬ XX l):KE (wi (wi l)) (rot 1 l):=by
 refine ⟨by rw [y16,y16,yct],?_⟩;have key:∀ i k,i<k->k<l.length->((wi (wi l)).getD i 0=(wi (wi l)).getD k 0 ↔ (rot 1 l).getD i 0=(rot 1 l).getD k 0):=by
  intro i k hik hk;rw [y34 (by omega) (by rw [y16];exact hk),yaq (by omega),yaq hk,show nxt l i=i+1 from if_neg (by omega)];have hn:nxt l k<l.length∧(nxt l k=0∧k+1=l.length∨nxt l k=k+1):=by
   unfold nxt;split<;>omega
  refine ⟨fun u=>?_,fun e x y hxl hyl exy a b=>?_⟩
  ·refine Decidable.byContradiction fun hne=>?_
   have no:∀ p q,p≤q->q<l.length->UU l p q->((i<p∧p≤k) ↔ (i<q∧q≤k)):=by
    intro p q hpq hq hu;have e:=(y34 hpq hq).2 hu;exact ⟨fun h=>u p q (by rw [y16];omega) (by rw [y16];omega) e h.1 h.2,fun h=>u q p (by rw [y16];omega) (by rw [y16];omega) e.symm h.1 h.2⟩
   obtain ⟨p,p1,p2,p3,p4⟩:=yj7 (p:=fun j=>l.getD j 0=l.getD (i+1) 0) (i+1) rfl (k - (i+1))
   by_cases hA:∃ j,k<j∧j<l.length∧l.getD j 0=l.getD (i+1) 0
   ·obtain ⟨j,j1,j2,j3⟩:=hA
    obtain ⟨c,c1,c2,c3⟩:=least (p:=fun j=>k<j∧l.getD j 0=l.getD (i+1) 0) j ⟨j1,j3⟩;have hc:c≠k+1:=by
     intro h;rcases hn.2 with h'|h'
     ·omega
     ·exact hne (by rw [h',← h];exact c2.2.symm)
    have hq:=no p (c - 1) (by omega) (by omega) (fun x y hxl hyl e a b=>by
     have hC:l.getD x 0≠l.getD (i+1) 0:=by
      intro h
      by_cases hxk:x≤k
      ·exact p4 x a (by omega) h
      ·exact c3 x (by omega) ⟨by omega,h⟩
     have yp:y≠p:=fun h=>hC (by rw [e,h];exact p3)
     have yc:y≠c:=fun h=>hC (by rw [e,h];exact c2.2)
     refine ⟨?_,?_⟩
     ·refine Decidable.byContradiction fun h=>?_
      exact hx ⟨y,p,x,c,by omega,by omega,by omega,by omega,e.symm,p3.trans c2.2.symm,fun h'=>hC (by rw [e,h',p3])⟩
     ·refine Decidable.byContradiction fun h=>?_
      exact hx ⟨p,x,c,y,by omega,by omega,by omega,by omega,p3.trans c2.2.symm,e,fun h'=>hC (by rw [← h',p3])⟩)
    have:=hq.1 ⟨by omega,by omega⟩;omega
   ·have hlast:∀ j,p<j->j<l.length->l.getD j 0≠l.getD p 0:=by
     intro j h1 h2 h3
     by_cases hjk:j≤k
     ·exact p4 j h1 (by omega) (h3.trans p3)
     ·exact hA ⟨j,by omega,h2,h3.trans p3⟩
    by_cases h0:l.getD p 0=l.getD 0 0
    ·have hk1:k+1≠l.length:=by
      intro h;rcases hn.2 with h'|h'
      ·exact hne (by rw [h'.1,← h0,p3])
      ·omega
     have hq:=no p (l.length - 1) (by omega) (by omega) (fun x y hxl hyl e a b=>by
      have hC:=hlast x a hxl;have yp:y≠p:=fun h=>hC (by rw [e,h])
      have y0:y≠0:=fun h=>hC (by rw [e,h,h0])
      refine ⟨?_,by omega⟩;refine Decidable.byContradiction fun h=>?_
      exact hx ⟨0,y,p,x,by omega,by omega,by omega,hxl,h0.symm,e.symm,fun h'=>hC (by rw [e,← h',h0])⟩)
     have:=hq.1 ⟨by omega,by omega⟩;omega
    ·obtain ⟨m,m1,m2,m3,m4,m5⟩:=uu_mob hx (by omega) hlast h0
     have mi:m≤i+1:=Decidable.byContradiction fun h=>m4 (i+1) (by omega) p3.symm
     have:=(no (m - 1) p (by omega) (by omega) m5).2 ⟨by omega,by omega⟩;omega
  ·rw [y16] at hxl hyl
   refine Decidable.byContradiction fun hc=>?_
   by_cases hyk:k<y
   ·have hu:=(y34 (show x≤y by omega) hyl).1 exy
    rcases hn.2 with h'|h'
    ·omega
    ·rw [h'] at e
     have:=hu (k+1) (i+1) (by omega) (by omega) e.symm (by omega) (by omega);omega
   ·have hu:=(y34 (show y≤x by omega) hxl).1 exy.symm
    have:=hu (i+1) (nxt l k) (by omega) hn.1 e (by omega) (by omega);omega
 intro i j hi hj;rw [y16,y16] at hi hj;rcases Nat.lt_trichotomy i j with c|c|c
 ·exact key i j c hj
 ·subst c
  exact ⟨fun _=>rfl,fun _=>rfl⟩
 ·rw [eq_comm,key j i c hi,eq_comm]
theorem wi_new {l:List Int} (hx:¬ XX l) {k:Nat} (hk:k<l.length):(∃ i,i<k∧UU l i k) ↔ ((∀ j,k<j->j<l.length->l.getD j 0≠l.getD k 0)∧l.getD k 0≠l.getD 0 0):=by
 constructor
 ·rintro ⟨i,hi,u⟩
  refine ⟨fun j h1 h2 h3=>?_,fun h=>?_⟩
  ·have:=u k j hk h2 h3.symm hi (zLe _)
   omega
  ·have:=u k 0 hk (by omega) h hi (zLe _)
   omega
 ·rintro ⟨h1,h2⟩
  obtain ⟨m,m1,m2,_,_,m5⟩:=uu_mob hx hk h1 h2;exact ⟨m - 1,by omega,m5⟩
open Classical in
theorem yb5 (v:Int):∀ l:List Int,cnt l=(List.range l.length).countP (fun i=>decide ((∀ j,i<j->j<l.length->l.getD j 0≠l.getD i 0)∧l.getD i 0≠v))+if v ∈ l then 1 else 0
 |[]=>rfl
 |x :: t=>by
  have ih:=yb5 v t;have e:(List.range t.length).countP ((fun i=>decide ((∀ j,i<j->j<t.length+1->(x :: t).getD j 0≠(x :: t).getD i 0)∧(x :: t).getD i 0≠v)) ∘ Nat.succ)=(List.range t.length).countP (fun i=>decide ((∀ j,i<j->j<t.length->t.getD j 0≠t.getD i 0)∧t.getD i 0≠v)):=by
   refine List.countP_congr fun i hi=>?_
   simp only [Function.comp,decide_eq_true_eq];refine and_congr ⟨fun h j h1 h2=>?_,fun h j h1 h2=>?_⟩ Iff.rfl
   ·have:=h (j+1) (by omega) (by omega)
    simpa using this
   ·cases j with
    |zero=>omega
    |succ j =>
     have:=h j (by omega) (by omega);simpa using this
  have e0:((∀ j,0<j->j<t.length+1->(x :: t).getD j 0≠(x :: t).getD 0 0)∧(x :: t).getD 0 0≠v) ↔ (¬ x ∈ t∧x≠v):=by
   refine and_congr ⟨fun h hm=>?_,fun h j h1 h2 h3=>?_⟩ Iff.rfl
   ·obtain ⟨j,hj,ex⟩:=List.getElem_of_mem hm
    exact h (j+1) (by omega) (by omega) (by simp [hj,ex])
   ·cases j with
    |zero=>omega
    |succ j =>
     have h2':j<t.length:=by omega
     have h3':t[j]=x:=by simpa [h2'] using h3
     exact h (h3' ▸ List.getElem_mem h2')
  rw [yjf,List.length_cons,List.range_succ_eq_map,List.countP_cons,List.countP_map,e,ih];simp only [e0,decide_eq_true_eq]
  by_cases h:x ∈ t<;>by_cases hv:x=v
  ·subst hv
   simp [h]
  ·have hv':¬ v=x:=fun h=>hv h.symm
   simp [h,hv']
  ·subst hv
   simp [h]
  ·have hv':¬ v=x:=fun h=>hv h.symm
   simp only [h,hv,List.mem_cons,hv',false_or,if_false,not_false_eq_true,ne_eq,and_self,if_true];omega
theorem y70 {α:Type} {p q:α->Bool}:∀ l:List α,(∀ x ∈ l,p x=!q x)->l.countP p+l.countP q=l.length
 |[],_=>rfl
 |x :: l,h=>by
  have ih:=y70 l fun y hy=>h y (List.mem_cons_of_mem _ hy)
  have hx:=h x (List.mem_cons_self ..);rw [List.countP_cons,List.countP_cons,hx,List.length_cons];cases q x<;>simp<;>omega
open Classical in
theorem wi_many {l:List Int} (hx:¬ XX l) (hl:l≠[]):cnt l+cnt (wi l)=l.length+1:=by
 have h0:l.getD 0 0 ∈ l:=by
  cases l with
  |nil=>exact absurd rfl hl
  |cons x t=>simp
 have h1:=yb5 (l.getD 0 0) l;rw [if_pos h0] at h1;have h2:=cnt_map (f:=wi l);rw [y16] at h2;have h3:=y70 (p:=fun i=>decide (∀ j,j<i->(wi l)[i]?≠(wi l)[j]?)) (q:=fun i=>decide ((∀ j,i<j->j<l.length->l.getD j 0≠l.getD i 0)∧l.getD i 0≠l.getD 0 0)) (List.range l.length) (fun k hk=>by
  have hk:=List.mem_range.1 hk;rw [Bool.eq_iff_iff,Bool.not_eq_true',decide_eq_true_iff,decide_eq_false_iff_not,← wi_new hx hk];refine ⟨fun h ⟨i,hi,u⟩=>h i hi ?_,fun h j hj e=>h ⟨j,hj,?_⟩⟩
  ·have:=(y34 (by omega) hk).2 u
   rw [y1t (by rw [y16];omega),y1t (by rw [y16];omega)] at this;rw [List.getElem?_eq_getElem (by rw [y16];omega),List.getElem?_eq_getElem (by rw [y16];omega),this]
  ·refine (y34 (by omega) hk).1 ?_
   rw [List.getD_eq_getElem?_getD,List.getD_eq_getElem?_getD,e])
 rw [List.length_range] at h3;omega
end Go.Proofs.Ytdhgeondbnpeoaa.Pl
namespace Go.Proofs.Ytdhgeondbnpeoaa.Pl
open Go.RowKit Go.Proofs.Ytdhgeondbnpeoaa.P Go.Proofs.Yw.Wd Go.Proofs.Yw.La Go.Proofs.Ytdhgeondbnpeoaa.Ext
theorem y66 {l:List Int} (hp:isP l=true):rgs 0 l=true:=by
 simp only [isP,Bool.and_eq_true] at hp;exact hp.2
def C4 (l:List Int) (a b c d:Nat):Prop:=l.getD a 0=l.getD c 0∧l.getD b 0=l.getD d 0∧l.getD a 0≠l.getD b 0
def N0 (l:List Int) (a:Nat):Prop:=∀ a' b c d,a≤a'->a'<b->b<c->c<d->d<l.length->¬ C4 l a' b c d
def N1 (l:List Int) (a b:Nat):Prop:=N0 l (a+1)∧∀ b' c d,b≤b'->b'<c->c<d->d<l.length->¬ C4 l a b' c d
def N2 (l:List Int) (a b c:Nat):Prop:=N1 l a (b+1)∧∀ c' d,c≤c'->c'<d->d<l.length->¬ C4 l a b c' d
def N3 (l:List Int) (a b c d:Nat):Prop:=N2 l a b (c+1)∧∀ d',d≤d'->d'<l.length->¬ C4 l a b c d'
def Res (l:List Int) (N:Prop) (F:Nat->Option (Int × Int × Int × Int × Bool)):Prop :=
 ∃ r:Int × Int × Int × Int × Bool,(r.2.2.2.2=true->XX l)∧(r.2.2.2.2=false->N)∧Ev fun k=>F k=some r
section
variable {l:List Int} (hn:l.length≤12)
include hn
theorem cr3 {a b c:Nat} (h1:a<b) (h2:b<c) (hc:c<l.length) (h:Res l (N2 l a b (c+1)) fun k=>mobs_crossed.l2 k l (a:Int) (b:Int) ((c+1:Nat):Int) (l.length:Int) (a:Int)):∀ e d,d+e=l.length->c<d->Res l (N3 l a b c d) fun k=>mobs_crossed.l3 k l (a:Int) (b:Int) (c:Int) (d:Int) (l.length:Int) (a:Int)
 |0,d,hd,hcd=>by
  obtain ⟨r,r1,r2,r3⟩:=h;refine ⟨r,r1,fun hf=>⟨r2 hf,fun d' q1 q2=>by omega⟩,r3.step fun k hk=>?_⟩
  try dsimp only
  rw [mobs_crossed.l3];rw [if_neg (by omega),w64 (x:=(c:Int)+1) (by omega) (by omega)];exact hk
 |e+1,d,hd,hcd=>by
  have hdn:d<l.length:=by omega
  by_cases hC:C4 l a b c d
  ·refine ⟨((a:Int),(b:Int),(c:Int),(d:Int),true),fun _=>⟨a,b,c,d,h1,h2,hcd,hdn,hC⟩,fun hf=>absurd hf (by simp),Ev.next fun k=>?_⟩
   obtain ⟨c1,c2,c3⟩:=hC
   try dsimp only
   rw [mobs_crossed.l3];rw [y4v,y4v,y4v,y4v,if_pos (by omega),if_pos (by omega),if_pos (by omega),if_pos (by omega),if_pos (by omega),if_pos c1,if_pos (by omega),if_pos (by omega),if_pos (by omega),if_pos c2,if_neg c3]
  ·obtain ⟨r,r1,r2,r3⟩:=cr3 h1 h2 hc h e (d+1) (by omega) (by omega)
   refine ⟨r,r1,fun hf=>⟨(r2 hf).1,fun d' q1 q2=>?_⟩,r3.step fun k hk=>?_⟩
   ·by_cases q:d'=d
    ·exact q ▸ hC
    ·exact (r2 hf).2 d' (by omega) q2
   ·rw [show ((d+1:Nat):Int)=(d:Int)+1 by omega] at hk
    try dsimp only
    rw [mobs_crossed.l3];rw [y4v,y4v,y4v,y4v,if_pos (by omega),if_pos (by omega),if_pos (by omega),if_pos (by omega),if_pos (by omega),w64 (x:=(d:Int)+1) (by omega) (by omega)]
    by_cases c1:l.getD a 0=l.getD c 0
    ·rw [if_pos c1,if_pos (by omega),if_pos (by omega),if_pos (by omega)]
     by_cases c2:l.getD b 0=l.getD d 0
     ·rw [if_pos c2,if_pos (Decidable.byContradiction fun c3=>hC ⟨c1,c2,c3⟩)]
      exact hk
     ·rw [if_neg c2]
      exact hk
    ·rw [if_neg c1]
     exact hk
theorem cr2 {a b:Nat} (h1:a<b) (hb:b<l.length) (h:Res l (N1 l a (b+1)) fun k=>mobs_crossed.l1 k l (a:Int) ((b+1:Nat):Int) (l.length:Int) (a:Int)):∀ e c,c+e=l.length->b<c->Res l (N2 l a b c) fun k=>mobs_crossed.l2 k l (a:Int) (b:Int) (c:Int) (l.length:Int) (a:Int)
 |0,c,hc,hbc=>by
  obtain ⟨r,r1,r2,r3⟩:=h;refine ⟨r,r1,fun hf=>⟨r2 hf,fun c' d q1 q2 q3=>by omega⟩,r3.step fun k hk=>?_⟩
  try dsimp only
  rw [mobs_crossed.l2];rw [if_neg (by omega),w64 (x:=(b:Int)+1) (by omega) (by omega)];exact hk
 |e+1,c,hc,hbc=>by
  obtain ⟨r,r1,r2,r3⟩:=cr3 hn h1 hbc (by omega) (cr2 h1 hb h e (c+1) (by omega) (by omega)) e (c+1) (by omega) (by omega);refine ⟨r,r1,fun hf=>⟨(r2 hf).1.1,fun c' d q1 q2 q3=>?_⟩,r3.step fun k hk=>?_⟩
  ·by_cases q:c'=c
   ·subst q
    exact (r2 hf).2 d (by omega) q3
   ·exact (r2 hf).1.2 c' d (by omega) q2 q3
  ·try dsimp only
   rw [mobs_crossed.l2];rw [if_pos (by omega),w64 (x:=(c:Int)+1) (by omega) (by omega)];exact hk
theorem cr1 {a:Nat} (ha:a<l.length) (h:Res l (N0 l (a+1)) fun k=>mobs_crossed.l0 k l (l.length:Int) ((a+1:Nat):Int)):∀ e b,b+e=l.length->a<b->Res l (N1 l a b) fun k=>mobs_crossed.l1 k l (a:Int) (b:Int) (l.length:Int) (a:Int)
 |0,b,hb,hab=>by
  obtain ⟨r,r1,r2,r3⟩:=h;refine ⟨r,r1,fun hf=>⟨r2 hf,fun b' c d q1 q2 q3 q4=>by omega⟩,r3.step fun k hk=>?_⟩
  try dsimp only
  rw [mobs_crossed.l1];rw [if_neg (by omega),w64 (x:=(a:Int)+1) (by omega) (by omega)];exact hk
 |e+1,b,hb,hab=>by
  obtain ⟨r,r1,r2,r3⟩:=cr2 hn hab (by omega) (cr1 ha h e (b+1) (by omega) (by omega)) e (b+1) (by omega) (by omega);refine ⟨r,r1,fun hf=>⟨(r2 hf).1.1,fun b' c d q1 q2 q3 q4=>?_⟩,r3.step fun k hk=>?_⟩
  ·by_cases q:b'=b
   ·subst q
    exact (r2 hf).2 c d (by omega) q3 q4
   ·exact (r2 hf).1.2 b' c d (by omega) q2 q3 q4
  ·try dsimp only
   rw [mobs_crossed.l1];rw [if_pos (by omega),w64 (x:=(b:Int)+1) (by omega) (by omega)];exact hk
theorem cr0:∀ e a,a+e=l.length->Res l (N0 l a) fun k=>mobs_crossed.l0 k l (l.length:Int) (a:Int)
 |0,a,ha=>by
  refine ⟨(0,0,0,0,false),fun hf=>absurd hf (by simp),fun _ a' b c d q1 q2 q3 q4 q5=>by omega,Ev.next fun k=>?_⟩
  try dsimp only
  rw [mobs_crossed.l0];rw [if_neg (by omega)]
 |e+1,a,ha=>by
  obtain ⟨r,r1,r2,r3⟩:=cr1 hn (by omega) (cr0 e (a+1) (by omega)) e (a+1) (by omega) (by omega);refine ⟨r,r1,fun hf a' b c d q1 q2 q3 q4 q5=>?_,r3.step fun k hk=>?_⟩
  ·by_cases q:a'=a
   ·subst q
    exact (r2 hf).2 b c d (by omega) q3 q4 q5
   ·exact (r2 hf).1 a' b c d (by omega) q2 q3 q4 q5
  ·try dsimp only
   rw [mobs_crossed.l0];rw [if_pos (by omega),w64 (x:=(a:Int)+1) (by omega) (by omega)];exact hk
theorem yc7:∃ r:Int × Int × Int × Int × Bool,(r.2.2.2.2=true ↔ XX l)∧Ev fun k=>mobs_crossed.f k l=some r:=by
 obtain ⟨r,r1,r2,r3⟩:=cr0 hn l.length 0 (by omega);refine ⟨r,⟨r1,fun ⟨a,b,c,d,h1,h2,h3,h4,h5⟩=>?_⟩,r3⟩;cases hb:r.2.2.2.2 with
 |true=>rfl
 |false=>exact absurd h5 (r2 hb a b c d (Nat.zero_le _) h1 h2 h3 h4)
end
theorem y3k {l:List Int} (hp:isP l=true):∃ a b c d:Int,∃ x:Bool,(x=true ↔ XX l)∧(Ev fun k=>mobs_crossed.f k l=some (a,b,c,d,x))∧Ev fun k=>mobs_Crossed.f k l=some (a,b,c,d,x,0):=by
 obtain ⟨⟨a,b,c,d,x⟩,h1,h2⟩:=yc7 (y30 hp);refine ⟨a,b,c,d,x,h1,h2,(h2.and (Ev.ge 30 fun k hk=>hk)).mono fun k hk=>?_⟩;unfold mobs_Crossed.f;rw [y49 l hk.2,if_pos (y30 hp),if_pos hp];simp only [Option.bind_some,if_true];rw [hk.1];rfl
theorem ydp (s:List Int) (v:Int) (hn:s.length≤100):∀ e j,j+e=s.length->∃ q:Int,(q ≥ 0 ↔ v ∈ s.drop j)∧Ev fun k=>slices_Index_int_int.l0 k s v (s.length:Int) (j:Int)=some q
 |0,j,hj=>by
  refine ⟨-1,?_,Ev.next fun k=>?_⟩
  ·rw [List.drop_of_length_le (by omega)]
   simp
  ·try dsimp only
   rw [slices_Index_int_int.l0];rw [if_neg (by omega)]
 |e+1,j,hj=>by
  have hlt:j<s.length:=by omega
  rw [List.drop_eq_getElem_cons hlt]
  by_cases h:v=s[j]
  ·refine ⟨(j:Int),⟨fun _=>by rw [h];exact List.mem_cons_self ..,fun _=>by omega⟩,Ev.next fun k=>?_⟩
   try dsimp only
   rw [slices_Index_int_int.l0];rw [if_pos (by omega),if_pos (by omega),if_pos (by omega),y7p hlt,if_pos h]
  ·obtain ⟨q,h1,h2⟩:=ydp s v hn e (j+1) (by omega)
   refine ⟨q,by simp only [List.mem_cons,h,false_or];exact h1,h2.step fun k hk=>?_⟩
   try dsimp only
   rw [slices_Index_int_int.l0];rw [if_pos (by omega),if_pos (by omega),if_pos (by omega),y7p hlt,if_neg h,w64 (x:=(j:Int)+1) (by omega) (by omega)];exact hk
theorem yaa (s:List Int) (v:Int) (hn:s.length≤100):Ev fun k=>slices_Contains_int_int.f k s v=some (decide (v ∈ s)):=by
 obtain ⟨q,h1,h2⟩:=ydp s v hn s.length 0 (by omega);refine h2.mono fun k hk=>?_
 unfold slices_Contains_int_int.f slices_Index_int_int.f;have hk':slices_Index_int_int.l0 k s v (s.length:Int) 0=some q:=hk;rw [hk'];simp only [Option.bind_some];rw [List.drop_zero] at h1;rw [decide_eq_decide.2 h1]
theorem yav (s y:List Int) (hs:s.length≤100) (hn:y.length≤100):∀ e j,j+e=y.length->Ev fun k=>mobs_parted.l0 k s y (y.length:Int) (j:Int)=some (decide (∃ v,v ∈ y.drop j∧v ∈ s))
 |0,j,hj=>Ev.next fun k=>by
  try dsimp only
  rw [mobs_parted.l0];rw [if_neg (by omega),List.drop_of_length_le (by omega)];simp
 |e+1,j,hj=>by
  have hlt:j<y.length:=by omega
  refine ((yaa s y[j] hs).and (yav s y hs hn e (j+1) (by omega))).step fun k hk=>?_
  try dsimp only
  rw [mobs_parted.l0];rw [if_pos (by omega),if_pos (by omega),if_pos (by omega),y7p hlt,hk.1,List.drop_eq_getElem_cons hlt];simp only [Option.bind_some,decide_eq_true_eq]
  by_cases h:y[j] ∈ s
  ·rw [if_pos h,zDt]
   exact ⟨_,List.mem_cons_self ..,h⟩
  ·rw [if_neg h,w64 (x:=(j:Int)+1) (by omega) (by omega)]
   refine hk.2.trans (congrArg some (decide_eq_decide.2 ⟨fun ⟨v,h1,h2⟩=>⟨v,List.mem_cons_of_mem _ h1,h2⟩,fun ⟨v,h1,h2⟩=>⟨v,?_,h2⟩⟩));rcases List.mem_cons.1 h1 with e1|h1
   ·exact absurd (e1 ▸ h2) h
   ·exact h1
theorem mem_tk {l:List Int} {m:Nat} {v:Int}:v ∈ l.take m ↔ ∃ x,x<m∧x<l.length∧l.getD x 0=v:=by
 rw [List.mem_iff_getElem];constructor
 ·rintro ⟨x,hx,e⟩
  rw [List.length_take] at hx;refine ⟨x,by omega,by omega,?_⟩;rw [y1t (by omega),← e,List.getElem_take]
 ·rintro ⟨x,h1,h2,e⟩
  refine ⟨x,by rw [List.length_take];omega,?_⟩;rw [List.getElem_take,← y1t h2,e]
theorem mem_dr {l:List Int} {m:Nat} {v:Int}:v ∈ l.drop m ↔ ∃ x,m≤x∧x<l.length∧l.getD x 0=v:=by
 rw [List.mem_iff_getElem];constructor
 ·rintro ⟨x,hx,e⟩
  rw [List.length_drop] at hx;refine ⟨m+x,by omega,by omega,?_⟩;rw [y1t (by omega),← e,List.getElem_drop]
 ·rintro ⟨x,h1,h2,e⟩
  refine ⟨x - m,by rw [List.length_drop];omega,?_⟩;rw [List.getElem_drop,← e,y1t h2]
  congr 1
  omega
theorem mem_in {l:List Int} {i k:Nat} {v:Int}:v ∈ (l.take (k+1)).drop (i+1) ↔ ∃ x,i<x∧x≤k∧x<l.length∧l.getD x 0=v:=by
 rw [mem_dr];constructor
 ·rintro ⟨x,h1,h2,e⟩
  rw [List.length_take] at h2;refine ⟨x,by omega,by omega,by omega,?_⟩;rw [← e,List.getD_eq_getElem?_getD,List.getD_eq_getElem?_getD,List.getElem?_take,if_pos (by omega)]
 ·rintro ⟨x,h1,h2,h3,e⟩
  refine ⟨x,by omega,by rw [List.length_take];omega,?_⟩;rw [← e,List.getD_eq_getElem?_getD,List.getD_eq_getElem?_getD,List.getElem?_take,if_pos (by omega)]
open Classical in
theorem y8x {l:List Int} (hn:l.length≤12) {i k:Nat} (hik:i<k) (hk:k<l.length):Ev fun r=>mobs_parted.f r l (i:Int) (k:Int)=some (decide ¬ UU l i k):=by
 have e1:wrap64 ((i:Int)+1)=((i+1:Nat):Int):=by rw [w64 (by omega) (by omega)];omega
 have e2:wrap64 ((k:Int)+1)=((k+1:Nat):Int):=by rw [w64 (by omega) (by omega)];omega
 have hs:((l.take (k+1)).drop (i+1)).length≤100:=by rw [List.length_drop,List.length_take];omega
 have hy:(l.take (i+1) ++ l.drop (k+1)).length≤100:=by rw [List.length_append,List.length_drop,List.length_take];omega
 refine (yav _ _ hs hy _ 0 (Nat.zero_add _)).mono fun r hr=>?_
 unfold mobs_parted.f slices_Clone_int_int.f;rw [e1,e2,if_pos (by omega),if_pos (by omega),if_pos (by omega),if_pos (by omega),Int.toNat_natCast,Int.toNat_natCast,if_pos (by rw [List.length_take];omega)];simp only [Option.bind_some];rw [if_pos (by omega),if_pos (by rw [List.length_drop,List.length_take];omega)];refine Eq.trans hr (congrArg some (decide_eq_decide.2 ?_));rw [List.drop_zero];constructor
 ·rintro ⟨v,h1,h2⟩ u
  obtain ⟨x,x1,x2,x3,x4⟩:=mem_in.1 h2;rcases List.mem_append.1 h1 with h|h
  ·obtain ⟨y,y1,y2,y3⟩:=mem_tk.1 h
   have:=u x y x3 y2 (x4.trans y3.symm) x1 x2;omega
  ·obtain ⟨y,y1,y2,y3⟩:=mem_dr.1 h
   have:=u x y x3 y2 (x4.trans y3.symm) x1 x2;omega
 ·intro hu
  refine Classical.byContradiction fun hc=>hu fun x y hx hy e a b=>Classical.byContradiction fun h=>hc ⟨l.getD x 0,?_,mem_in.2 ⟨x,a,b,hx,rfl⟩⟩
  rw [List.mem_append,mem_tk,mem_dr]
  by_cases h':y≤i
  ·exact Or.inl ⟨y,by omega,hy,e.symm⟩
  ·exact Or.inr ⟨y,by omega,hy,e.symm⟩
theorem ygs {l:List Int} (hn:l.length≤12) {k:Nat} (hk:k<l.length) {out:List Int} (ho:out.length=k) {R:Option (List Int × Int)}:∀ (i a:Nat),i≤k->a≤k->(Ev fun r=>mobs_Between.l0 r l (out ++ [((loR l k i a:Nat):Int)]) (l.length:Int) ((k:Int)+1)=R)->Ev fun r=>mobs_Between.l1 r l out (k:Int) (a:Int) ((i:Int) - 1) (l.length:Int) (k:Int)=R
 |0,a,hi,ha,h=>h.step fun r hr=>by
  try dsimp only
  rw [mobs_Between.l1];rw [if_neg (by omega),if_pos (by omega),w64 (x:=(k:Int)+1) (by omega) (by omega)];exact hr
 |i+1,a,hi,ha,h=>by
  unfold loR at h;have e1:((i+1:Nat):Int) - 1=(i:Int):=by omega
  by_cases hu:UU l i k
  ·rw [if_pos hu] at h
   refine ((y8x hn (show i<k by omega) hk).and (ygs hn hk ho i i (by omega) (by omega) h)).step fun r hr=>?_
   try dsimp only
   rw [mobs_Between.l1];rw [e1,if_pos (by omega),hr.1];simp only [Option.bind_some,hu,not_true,decide_false,Bool.false_eq_true,if_false];rw [w64 (x:=(i:Int) - 1) (by omega) (by omega)];exact hr.2
  ·rw [if_neg hu] at h
   refine ((y8x hn (show i<k by omega) hk).and (ygs hn hk ho i a (by omega) ha h)).step fun r hr=>?_
   try dsimp only
   rw [mobs_Between.l1];rw [e1,if_pos (by omega),hr.1];simp only [Option.bind_some,hu,not_false_eq_true,decide_true,if_true];rw [w64 (x:=(i:Int) - 1) (by omega) (by omega)];exact hr.2
theorem wi_take {l:List Int} {k:Nat} (hk:k<l.length):(wi l).take (k+1)=(wi l).take k ++ [((lo l k:Nat):Int)]:=by
 have h:k<(wi l).length:=by rw [y16];exact hk
 rw [List.take_succ_eq_append_getElem h,← y1t h,yce hk]
theorem wi_in {l:List Int} (hn:l.length≤12):∀ x ∈ wi l,In64 x:=by
 intro x hx;unfold wi at hx;obtain ⟨k,hk,rfl⟩:=List.mem_map.1 hx;have h1:=List.mem_range.1 hk;have h2:=(lo_ok l k).1;unfold In64;omega
theorem btw_l0 {l:List Int} (hn:l.length≤12):∀ e k,k+e=l.length->Ev fun r=>mobs_Between.l0 r l ((wi l).take k) (l.length:Int) (k:Int)=some (numL (wi l),0)
 |0,k,hk=>Ev.next fun r=>by
  try dsimp only
  rw [mobs_Between.l0];rw [if_neg (by omega),List.take_of_length_le (by rw [y16];omega),num_f (by rw [y16];omega) (wi_in hn)];rfl
 |e+1,k,hk=>by
  have hlt:k<l.length:=by omega
  have ih:=btw_l0 hn e (k+1) (by omega);rw [wi_take hlt,show ((k+1:Nat):Int)=(k:Int)+1 by omega] at ih;refine (ygs hn hlt (by rw [List.length_take,y16];omega) k k (zLe _) (zLe _) ih).step fun r hr=>?_
  try dsimp only
  rw [mobs_Between.l0];rw [if_pos (by omega),w64 (x:=(k:Int) - 1) (by omega) (by omega)];exact hr
theorem y76 {l:List Int} (hp:isP l=true) (hx:¬ XX l):Ev fun k=>mobs_Between.f k l=some (numL (wi l),0):=by
 obtain ⟨a,b,c,d,x,h1,h2,_⟩:=y3k hp;refine ((h2.and (Ev.ge 30 fun k hk=>hk)).and (btw_l0 (y30 hp) l.length 0 (Nat.zero_add _))).mono fun k hk=>?_
 have hx':x=false:=by
  cases x with
  |false=>rfl
  |true=>exact absurd (h1.1 rfl) hx
 unfold mobs_Between.f;rw [y49 l hk.1.2,if_pos (y30 hp),if_pos hp];simp only [Option.bind_some,if_true];rw [hk.1.1,hx'];exact hk.2
theorem yak {l:List Int} (hp:isP l=true) (hx:XX l):Ev fun k=>mobs_Between.f k l=some ([],9):=by
 obtain ⟨a,b,c,d,x,h1,h2,_⟩:=y3k hp;refine (h2.and (Ev.ge 30 fun k hk=>hk)).mono fun k hk=>?_
 unfold mobs_Between.f;rw [y49 l hk.2,if_pos (y30 hp),if_pos hp];simp only [Option.bind_some,if_true];rw [hk.1,h1.2 hx];rfl
theorem isP_in {l:List Int} (hp:isP l=true):∀ x ∈ l,In64 x:=by
 intro x hx;obtain ⟨i,hi,e⟩:=List.getElem_of_mem hx;have h1:=rgs_at (y66 hp) hi;obtain ⟨_,_,q3,q4⟩:=y5p l 0 i (y66 hp) (Int.le_refl _);have:=y30 hp;rw [y1t hi,e] at h1;unfold In64;omega
def shf (by_:Int) (n:Nat):Nat:=(by_ % (n:Int)).toNat
theorem shf_lt (b:Int) {n:Nat} (h:0<n):shf b n<n:=by
 have h1:=Int.emod_lt_of_pos b (show 0<(n:Int) by omega);have h2:=Int.emod_nonneg b (show (n:Int)≠0 by omega);unfold shf;omega
theorem yh7 (b:Int) {n:Nat} (h:0<n) (hn:n≤12):Int.tmod (wrap64 (Int.tmod b (n:Int)+(n:Int))) (n:Int)=((shf b n:Nat):Int):=by
 have h1:=Int.emod_lt_of_pos b (show 0<(n:Int) by omega);have h2:=Int.emod_nonneg b (show (n:Int)≠0 by omega);have h3:-(n:Int)<Int.tmod b n∧Int.tmod b n<n:=by
  have a1:=Int.tmod_lt_of_pos b (show 0<(n:Int) by omega);have a2:=Int.lt_tmod_of_pos b (show 0<(n:Int) by omega);omega
 have h4:Int.tmod b n % n=b % n:=by
  have:=Int.tmod_add_mul_tdiv b n;have e:b=Int.tmod b n+n * Int.tdiv b n:=by omega
  conv=>rhs;rw [e,Int.add_mul_emod_self_left]
 rw [w64 (by omega) (by omega),Int.tmod_eq_emod_of_nonneg (by omega),Int.add_emod_right,h4];unfold shf;omega
theorem rot_in {l:List Int} (h:∀ x ∈ l,In64 x) (k:Nat):∀ x ∈ rot k l,In64 x:=by
 intro x hx;rcases List.mem_append.1 hx with h'|h'
 ·exact h x (List.mem_of_mem_drop h')
 ·exact h x (List.mem_of_mem_take h')
theorem yjt {l:List Int} (hp:isP l=true) (b:Int) (h0:0<l.length) {k:Nat} (hk:30≤k):mobs_Around.f k l b=some (numL (rot (shf b l.length) l),0):=by
 have hl:=y30 hp;have hs:=shf_lt b h0;unfold mobs_Around.f slices_Clone_int_int.f;rw [y49 l hk,if_pos hl,if_pos hp];simp only [Option.bind_some,if_true];rw [if_neg (by omega),yh7 b h0 hl,if_pos (by omega),if_pos (by omega),Int.toNat_natCast,if_pos (by rw [List.length_drop];omega)];simp only [Option.bind_some];rw [if_pos (by rw [List.length_drop,List.length_take];omega)];have:=num_f (l:=rot (shf b l.length) l) (by rw [yct];omega) (rot_in (isP_in hp) _);rw [rot] at this;rw [this];rfl
theorem yca (b:Int) {k:Nat} (hk:30≤k):mobs_Around.f k [] b=some ([],0):=by
 unfold mobs_Around.f;rw [y49 [] hk];rfl
end Go.Proofs.Ytdhgeondbnpeoaa.Pl
namespace Go.Proofs.Ytdhgeondbnpeoaa.Pure
open Go.RowKit Go.Proofs.Ytdhgeondbnpeoaa.P Go.Proofs.Yw.Wd Go.Proofs.Yw.La
open Go.Proofs.Ytdhgeondbnpeoaa.Pl Go.Proofs.Ytdhgeondbnpeoaa.Ext
theorem y6z (k:Nat) (l:List Int):w6_MobsKreweras.j0 (k+1) l true=some true:=by
 rw [w6_MobsKreweras.j0,if_pos rfl];simp [w6_alive.f]
theorem yc9 {l:List Int} (hp:isP l=true) {k:Nat} (hk:30≤k):mobs_Around.f k l 1=some (numL (rot 1 l),0):=by
 cases l with
 |nil =>
  rw [yca 1 hk];simp [rot];rfl
 |cons x t =>
  rw [yjt hp 1 (by simp) hk];cases t with
  |nil =>
   have e:shf 1 [x].length=0:=by
    show shf 1 1=0;decide
   rw [e];simp [rot]
  |cons y t =>
   have e:shf 1 (x :: y :: t).length=1:=by
    unfold shf;rw [List.length_cons,List.length_cons,Int.emod_eq_of_lt (by omega) (by omega)];rfl
   rw [e]
theorem krew_in {l:List Int} (hp:isP l=true):Ev fun k=>w6_MobsKreweras.j0 k l false=some true:=by
 have hn:=y30 hp;obtain ⟨a0,b0,c0,d0,x,hxx,_,e1⟩:=y3k hp
 by_cases hX:XX l
 ·have hx:x=true:=hxx.2 hX
  have h1:Ev fun k=>w6_MobsKreweras.j1 k l x [] ((9:Int) != 9)=some true:=Ev.next fun k=>by
   rw [w6_MobsKreweras.j1,if_neg (by decide),if_pos hx];simp [w6_alive.f]
  refine ((e1.and (yak hp hX)).and h1).step fun k hk=>?_
  rw [w6_MobsKreweras.j0,if_neg (by decide),hk.1.1,hk.1.2];simp only [Option.bind_some,if_true];rw [if_neg (by rw [hx];decide),if_neg (by decide)];exact hk.2
 ·have hx:x=false:=by
   cases x with
   |false=>rfl
   |true=>exact absurd (hxx.1 rfl) hX
  obtain ⟨b,hb⟩:∃ b,b=numL (wi l):=⟨_,rfl⟩
  have lb:b.length=l.length:=by rw [hb,y4c,y16]
  have pb:isP b=true:=by rw [hb];exact yiy (by rw [y16];exact hn)
  have kb:KE b (wi l):=by rw [hb];exact KE.num _
  have xb:¬ XX b:=fun h=>yh5 l (kb.xx h)
  obtain ⟨a1,b1,c1,d1,y,hyy,_,e2⟩:=y3k pb;have hy:y=false:=by
   cases y with
   |false=>rfl
   |true=>exact absurd (hyy.1 rfl) xb
  have hs:numL (wi b)=numL (rot 1 l):=ybw (kb.wi.trans (yh4 hX));have h2:Ev fun k=>w6_MobsKreweras.j2 k l b false=some true:=by
   refine (((e2.and (y76 pb xb))).and (Ev.ge 100 fun k hk=>hk)).step fun k hk=>?_
   rw [w6_MobsKreweras.j2,if_neg (by decide),hk.1.1,hk.1.2,yc9 hp (by omega)];simp only [Option.bind_some,if_true];rw [if_neg (by rw [hy];decide),same_f (by rw [y4c,y16,lb];omega) (by omega),zDt hs];simp only [Option.bind_some,if_true]
   by_cases h0:(l.length:Int)=0
   ·rw [if_pos h0]
    simp [w6_alive.f]
   ·rw [if_neg h0,many_f hn (y66 hp) (by omega),many_f (by omega) (y66 pb) (by omega)]
    simp only [Option.bind_some];have h3:st 0 l+st 0 b=(l.length:Int)+1:=by
     have h4:=wi_many hX (fun e=>h0 (by rw [e];rfl));rw [st_cnt (y66 hp),hb,(y3f _).2];unfold cnt at h4 ⊢;omega
    rw [h3,if_pos rfl];simp [w6_alive.f]
  have h1:Ev fun k=>w6_MobsKreweras.j1 k l x b false=some true:=by
   refine (h2.and (Ev.ge 100 fun k hk=>hk)).step fun k hk=>?_
   rw [w6_MobsKreweras.j1,if_neg (by decide),if_neg (by rw [hx];decide),ya1 b (by omega),pb];simp only [Option.bind_some,if_true];rw [lb,bne_self_eq_false];exact hk.1
  refine ((e1.and (y76 hp hX)).and h1).step fun k hk=>?_
  rw [w6_MobsKreweras.j0,if_neg (by decide),hk.1.1,hk.1.2];simp only [Option.bind_some,if_true];rw [if_neg (by rw [hx];decide),← hb];exact hk.2
theorem MobsKreweras:w6_MobsKreweras.Pure:=by
 intro l _ _ _
 by_cases hp:isP l=true
 ·obtain ⟨k,hk⟩:=((Ev.ge 30 fun k hk=>hk).and (krew_in hp)).ex
  refine ⟨k,?_⟩;have la:=y30 hp;unfold w6_MobsKreweras.f w6_few.f;rw [if_pos (by omega)];simp only [Option.bind_some];rw [zDt (by simp),if_pos rfl,ya1 l hk.1,hp];exact hk.2
 ·refine ⟨30+1,?_⟩
  have hp':isP l=false:=by simpa using hp
  unfold w6_MobsKreweras.f w6_few.f
  by_cases g0:(l.length:Int)≤40
  ·rw [if_pos g0]
   simp only [Option.bind_some];rw [zDt (by simp),if_pos rfl,ya1 l (by omega),hp'];exact y6z 30 l
  ·rw [if_neg g0]
   simp only [Option.bind_some];rw [if_neg (by decide)];exact y6z _ _
end Go.Proofs.Ytdhgeondbnpeoaa.Pure
namespace Go.Proofs.Yw.Wd
open Go.ChangeShapes Go.WideShapes
theorem sized_ints {H:Type} {enc:TypeId × Value->H} {P:Program} {W:World} {base:Nat} {spare:Nat->Bool} {held:Bool} {t e:TypeId} {k:IntKind} {a:Option Addr} {len cap:Nat} {d:DataW H} {ps:List MemPlace} {ts:List TypeId} {ds:List (DataW H)} {j:Nat}
  (hsz:(DataW.weightsEach P ts ds).all (·≤reachBytes)=true) (ht:ts[j]?=some t) (hd:ds[j]?=some d) (hu:P.underlying t=some (.slice e)) (he:P.underlying e=some (.int k)) (hc:P.cellsOf e=1) {B:Nat} (hB:P.bytesOf e=B)
  (h:DataW.Trod enc P W base spare held t (.slice a len cap) d ps):len * B≤140737488351232:=by
 obtain ⟨fuel,hf⟩:=h;rcases open_ints hu he hc hf with ⟨hcs,_⟩|⟨x,l,c,zs,hcs,_,hl,_,hz,hx,_,_⟩
 ·simp [Value.cells] at hcs
  obtain ⟨rfl,rfl,rfl⟩:=hcs;simp
 ·simp [Value.cells] at hcs
  obtain ⟨rfl,rfl,rfl⟩:=hcs;obtain ⟨hx,_⟩:=Prod.mk.inj hx;subst hx;have z:=sized_slice hsz ht hd hu;rw [hB] at z;have hl2:len≤zs.length:=by
   rw [hz];split
   ·exact hl
   ·exact zLe _
  have h1:(lits (H:=H) k (zs.take len)).length+(lits (H:=H) k (zs.drop len)).length=zs.length:=by
   simp [lits];omega
  rw [h1] at z;exact Nat.le_trans (Nat.mul_le_mul_right _ hl2) z
end Go.Proofs.Yw.Wd
