/- The theorem of TopJoined, proved; part 4 of 7: its texts, merged. -/
import Derived.Test.YtfgcijifdbgpaaaVjC
import Derived.Laws.EntriesVeiled
import Derived.Deep.RegionLawGrows
import Derived.Lib.OthersKept
import Derived.WalkSmall
import Derived.Laws.RangeAny
set_option linter.unnecessarySimpa false
set_option linter.defProp false
set_option linter.unusedVariables false
set_option linter.unusedSimpArgs false
set_option linter.unusedSectionVars false
set_option maxRecDepth 100000
set_option maxHeartbeats 8000000
namespace Go.Proofs.Ytfgcijifdbgpaaa.Q
open Go.RowKit Go.Proofs.YtfgcijifdbgpaaaW.Wd Go.Proofs.YtfgcijifdbgpaaaW.La Go.Proofs.YtfgcijifdbgpaaaW.Mo
attribute [local go_sem] y0x y0v y16 y15 y0q y0p y0w y0u
mutual
def slices_insertionSortOrdered_int.l0:Nat->List Int->Int->Int->Int->Option (List Int)
 |0,_,_,_,_=>none
 |k+1,x0,x1,x2,x6=>if x6<x2 then (slices_insertionSortOrdered_int.l1 k x0 x1 x2 x6 x6) else (some x0)
def slices_insertionSortOrdered_int.l1:Nat->List Int->Int->Int->Int->Int->Option (List Int)
 |0,_,_,_,_,_=>none
 |k+1,x0,x1,x2,x6,x7=>if x7 > x1 then (if 0≤x7 then (if x7<(x0.length:Int) then (if 0≤(wrap64 (x7 - 1)) then (if (wrap64 (x7 - 1))<(x0.length:Int) then ((cmp_Less_int.f (rd x0 x7) (rd x0 (wrap64 (x7 - 1)))).bind fun t110=>(if t110=true then (slices_insertionSortOrdered_int.l1 k ((x0.set (x7:Int).toNat (rd x0 (wrap64 (x7 - 1)))).set ((wrap64 (x7 - 1)):Int).toNat (rd x0 x7)) x1 x2 x6 (wrap64 (x7 - 1))) else (slices_insertionSortOrdered_int.l0 k x0 x1 x2 (wrap64 (x6+1))))) else (none)) else (none)) else (none)) else (none)) else (slices_insertionSortOrdered_int.l0 k x0 x1 x2 (wrap64 (x6+1)))
end
def slices_insertionSortOrdered_int.f (k:Nat) (l0:List Int) (a1:Int) (a2:Int):Option (List Int):=slices_insertionSortOrdered_int.l0 k l0 a1 a2 (wrap64 (a1+1))
def slices_insertionSortOrdered_int.T4:Bool × List (List Nat × List Nat):=(true,[([],[]),([],[]),([0,1],[0,1]),([2],[2]),([3],[3]),([3],[3]),([4,5,3],[3,4,5]),([6,3],[3,6]),([3],[3]),([3],[3]),([9,3],[3,9]),([8,10,3],[3,8,10]),([11,3],[3,11]),([7,12,3,3],[3,7,12]),([3,13],[3,13])])
def slices_insertionSortOrdered_int.B4:List Nat:=[0,0,3,7,15,15,63,127,15,15,527,1807,3855,8191,16383]
theorem slices_insertionSortOrdered_int.tab4:rtab .any (ygd Tra.f77 4)=slices_insertionSortOrdered_int.T4:=by kernel_rfl
theorem slices_insertionSortOrdered_int.bits4:y3j slices_insertionSortOrdered_int.T4.2 slices_insertionSortOrdered_int.B4=true:=by kernel_rfl
def slices_insertionSortOrdered_int.T6:Bool × List (List Nat × List Nat):=(true,[([],[]),([],[]),([],[]),([],[]),([3],[3]),([],[]),([],[]),([6],[6]),([5,7],[5,7]),([8],[8]),([],[]),([],[]),([10,11],[10,11]),([12],[12]),([0,1,0,1,5,6,7,8,9,13],[0,1]),([14,9,0,1,5,6,7,8,9,13],[9,14]),([2,4,0,1,2,3,4,5,6,7,8,9,10,11,12,13,14,15],[2,4]),([16,13,15,0,1,2,3,4,5,6,7,8,9,10,11,12,13,14,15],[13,16])])
def slices_insertionSortOrdered_int.B6:List Nat:=[0,0,0,0,8,0,0,64,224,480,0,0,3072,7168,16355,32739,65535,131071]
theorem slices_insertionSortOrdered_int.tab6:rtab .any (ygd Tra.f77 6)=slices_insertionSortOrdered_int.T6:=by kernel_rfl
theorem slices_insertionSortOrdered_int.bits6:y3j slices_insertionSortOrdered_int.T6.2 slices_insertionSortOrdered_int.B6=true:=by kernel_rfl
theorem slices_insertionSortOrdered_int.calls (k:Nat) (P0_:Nat->Prop) (u9000_:Value) (l0:List Int) (a1:Int) (a2:Int) (r:List Int) (w0 w:World) (hB:Below w0.heap.size w0 w) (ho0:Kd.R (Kd.int .i64) 3 w w0.heap.size P0_ u9000_ l0) (h:slices_insertionSortOrdered_int.f k l0 a1 a2=some r) :
  Calls Tra.prog 77 #[u9000_,.int .i64 a1,.int .i64 a2] w fun e w'=>e=.returned (.tuple #[])∧Kd.R (Kd.int .i64) 3 w' w0.heap.size (fun k_=>(P0_ k_∨w.heap.size≤k_)) u9000_ r∧Below w0.heap.size w0 w'∧Kept w w' (fun k_=>P0_ k_):=by
 have HO0:=As0.mk (show Kd.R (Kd.int .i64) 3 w w0.heap.size (fun k_=>(P0_ k_∨w.heap.size≤k_)) u9000_ l0 from Kd.R_mono ho0 (fun k_ hk=>(.inl hk)));have HK:=As0.mk (Kept.refl w (fun k_=>P0_ k_));have HW0:=As0.mk hB.size;have HB:=As0.mk hB;clear hB;have H:(slices_insertionSortOrdered_int.l0 k l0 a1 a2 (wrap64 (a1+1)))=some r:=h;clear h;have H':=As0.mk H;clear H;go_enter Tra.func77,Tra.ntmps77
 go_wp2
 go_loopg [6] k (fun kq v6 w'=>∃ (x0_1:List Int) (x6_1:Int),v6=.int .i64 x6_1∧As0 (slices_insertionSortOrdered_int.l0 kq x0_1 a1 a2 x6_1=some r)∧As0 (kq≤k)∧As0 (Kd.R (Kd.int .i64) 3 w' w0.heap.size (fun k_=>(P0_ k_∨w.heap.size≤k_)) u9000_ x0_1)∧As0 (Kept w w' (fun k_=>P0_ k_))∧As0 (Below w0.heap.size w0 w'))
 case atStart=>exact ⟨(l0),(wrap64 (a1+1)),(by first|rfl|(simp;done)|(simp [*];done)),H',⟨zLe _⟩,⟨by (with_reducible repeat (first|apply Kd.R_alloc|apply Kd.R_drewN|apply Kd.R_drew));exact HO0.out⟩,⟨by repeat (first|(with_reducible first|exact HK.out|apply Kept.alloc|apply Kept.drewN|apply Kept.drew)|exact HK.out)⟩,⟨by repeat (with_reducible first|exact HB.out|apply y01|apply y00|apply y02)⟩⟩
 case round =>
  clear H'
  try clear p2
  obtain ⟨x0_1,x6_1,rfl,HA,HK1,HO_0,HK,HB⟩:=hrel;cases gk with
  |zero=>exact absurd HA.out (by simp [slices_insertionSortOrdered_int.l0])
  |succ k1 =>
   have H:=HA.out;clear HA;simp only [slices_insertionSortOrdered_int.l0] at H
   by_cases c4:x6_1<a2
   ·rw [if_pos c4] at H
    have c4b0:decide (x6_1<a2)=true:=zDt c4;clear c4;have H':=As0.mk H;clear H;go_wp2
    go_loopg [7] k1 (fun kq v7 w'=>∃ (x0_2:List Int) (x7_2:Int),v7=.int .i64 x7_2∧As0 (slices_insertionSortOrdered_int.l1 kq x0_2 a1 a2 x6_1 x7_2=some r)∧As0 (kq≤k1)∧As0 (Kd.R (Kd.int .i64) 3 w' w0.heap.size (fun k_=>(P0_ k_∨w.heap.size≤k_)) u9000_ x0_2)∧As0 (Kept w w' (fun k_=>P0_ k_))∧As0 (Below w0.heap.size w0 w'))
    case atStart=>exact ⟨(x0_1),(x6_1),(by first|rfl|(simp;done)|(simp [*];done)),H',⟨zLe _⟩,⟨by (with_reducible repeat (first|apply Kd.R_alloc|apply Kd.R_drewN|apply Kd.R_drew));exact HO_0.out⟩,⟨by repeat (first|(with_reducible first|exact HK.out|apply Kept.alloc|apply Kept.drewN|apply Kept.drew)|exact HK.out)⟩,⟨by repeat (with_reducible first|exact HB.out|apply y01|apply y00|apply y02)⟩⟩
    case round =>
     clear H'
     try clear p2
     try clear c4
     try clear c4b0
     try clear p2
     obtain ⟨x0_2,x7_2,rfl,HA,HK2,HO_0,HK,HB⟩:=hrel;cases gk with
     |zero=>exact absurd HA.out (by simp [slices_insertionSortOrdered_int.l1])
     |succ k2 =>
      have H:=HA.out;clear HA;simp only [slices_insertionSortOrdered_int.l1] at H
      by_cases c5:x7_2 > a1
      ·rw [if_pos c5] at H
       have c5b0:decide (a1<x7_2)=true:=zDt c5;clear c5
       by_cases c6:0≤x7_2
       ·rw [if_pos c6] at H
        have c6b0:decide (0≤x7_2)=true:=zDt c6;clear c6
        by_cases c7:x7_2<(x0_2.length:Int)
        ·rw [if_pos c7] at H
         have c7b0:decide (x7_2<(x0_2.length:Int))=true:=zDt c7;clear c7;obtain ⟨ji8,hji8⟩:∃ j_:Int,(wrap64 (x7_2 - 1))=j_:=⟨_,rfl⟩
         replace H:(if 0≤(ji8) then (if (ji8)<(x0_2.length:Int) then ((cmp_Less_int.f (rd x0_2 x7_2) (rd x0_2 (ji8))).bind fun t110=>(if t110=true then (slices_insertionSortOrdered_int.l1 k2 ((x0_2.set (x7_2:Int).toNat (rd x0_2 (ji8))).set ((ji8):Int).toNat (rd x0_2 x7_2)) a1 a2 x6_1 ji8) else (slices_insertionSortOrdered_int.l0 k2 x0_2 a1 a2 (wrap64 (x6_1+1))))) else (none)) else (none))=some r:=by first|(rw [hji8] at H;exact H)|(simp only [hji8] at H ⊢;exact H)
         have hji8w:(IntKind.i64.wrap (x7_2 - 1))=ji8:=(y0a _).trans hji8
         by_cases c9:0≤(ji8)
         ·rw [if_pos c9] at H
          have c9b0:decide (0≤(ji8))=true:=zDt c9;clear c9
          by_cases c10:(ji8)<(x0_2.length:Int)
          ·rw [if_pos c10] at H
           have c10b0:decide ((ji8)<(x0_2.length:Int))=true:=zDt c10;clear c10;replace H:=Option.bind_eq_some_iff.mp H;obtain ⟨t110,A110,H⟩:=H;replace H:(if t110=true then (slices_insertionSortOrdered_int.l1 k2 ((x0_2.set (x7_2:Int).toNat (rd x0_2 (ji8))).set ((ji8):Int).toNat (rd x0_2 x7_2)) a1 a2 x6_1 ji8) else (slices_insertionSortOrdered_int.l0 k2 x0_2 a1 a2 (wrap64 (x6_1+1))))=some r:=H;have A11:=As0.mk A110;clear A110
           by_cases c12:t110=true
           ·subst c12
            have H1:(slices_insertionSortOrdered_int.l1 k2 ((x0_2.set (x7_2:Int).toNat (rd x0_2 (ji8))).set ((ji8):Int).toNat (rd x0_2 x7_2)) a1 a2 x6_1 ji8)=some r:=by rw [if_pos rfl] at H;exact H
            clear H;have H:=H1;clear H1;obtain ⟨y113,hy113⟩:∃ y_:List Int,y_=(x0_2.set (x7_2:Int).toNat (rd x0_2 (ji8))):=⟨_,rfl⟩
            replace H:(slices_insertionSortOrdered_int.l1 k2 (y113.set ((ji8):Int).toNat (rd x0_2 x7_2)) a1 a2 x6_1 ji8)=some r:=by first|(rw [hy113];with_reducible exact H)|(have H2_:=(Option.bind_some _ _).symm.trans H;rw [hy113];with_reducible exact H2_)|(have H2_:=(Option.bind_some _ _).symm.trans H;with_reducible exact H2_)|with_reducible exact H|(rw [hy113];exact H)|exact H
            have Ny113:=As0.mk hy113;clear hy113;obtain ⟨y114,hy114⟩:∃ y_:List Int,y_=(y113.set ((ji8):Int).toNat (rd x0_2 x7_2)):=⟨_,rfl⟩
            replace H:(slices_insertionSortOrdered_int.l1 k2 y114 a1 a2 x6_1 ji8)=some r:=by first|(rw [hy114];with_reducible exact H)|(have H2_:=(Option.bind_some _ _).symm.trans H;rw [hy114];with_reducible exact H2_)|(have H2_:=(Option.bind_some _ _).symm.trans H;with_reducible exact H2_)|with_reducible exact H|(rw [hy114];exact H)|exact H
            have Ny114:=As0.mk hy114;clear hy114;have H':=As0.mk H;clear H
            try go_wp2
            have n0_:=As0.mk (Kd.R_drew HO_0.out);have n1_:=As0.mk (Kept.drew HK.out);have n2_:=As0.mk (y02 HB.out);clear HO_0;clear HK;clear HB;have HO_0:=n0_;have HK:=n1_;have HB:=n2_;clear n0_ n1_ n2_;obtain ⟨Ao16,co16,eo16⟩:=Kd.R_slice HO_0.out
            (first|subst eo16|(injection eo16 with f1_ f2_ f3_;have f4_:=f1_.symm;have f5_:=f3_.symm;clear f1_ f2_ f3_;subst f4_;subst f5_))
            have p108:0≤(x7_2:Int):=zDo (by with_reducible assumption);have q108:x7_2<(x0_2.length:Int):=zDo (by with_reducible assumption);obtain ⟨ad108,e108,hx108_0⟩:=Kd.at_int (Kd.R_reads' HO_0.out).2.2 x7_2 p108 q108;cases e108
            replace p108:=eq_true p108;replace q108:=eq_true q108;have p109:0≤((ji8):Int):=zDo (by with_reducible assumption);have q109:(ji8)<(x0_2.length:Int):=zDo (by with_reducible assumption);obtain ⟨ad109,e109,hx109_0⟩:=Kd.at_int (Kd.R_reads' HO_0.out).2.2 (ji8) p109 q109;obtain rfl:ad108=ad109:=(by injection e109)
            replace p109:=eq_true p109;replace q109:=eq_true q109;refine y2d (n:=15) (S:=fun w'=>w'.cell? (ad108.add (x7_2).toNat)=some (.int .i64 (rd x0_2 x7_2))∧w'.cell? (ad108.add ((ji8)).toNat)=some (.int .i64 (rd x0_2 (ji8)))) (ds:=[]) #[false,false,false,false,false,false,false,false,false,false,false,false,false,false,false] (by kernel_rfl) rfl rfl ⟨hx108_0,hx109_0⟩ (fun hHeld=>?_);refine y25 slices_insertionSortOrdered_int.tab4 slices_insertionSortOrdered_int.bits4 (fun HT_ HW_=>?_);generalize wr.drew=w15 at HO_0 HK HB hx108_0 hx109_0 hHeld ⊢;refine y0e (i:=0) (N:=some 16) (v:=?_) (a':=?_) #[true,false,false,false,false,false,false,false,false,false,false,false,false,false,false] rfl rfl (y0i HT_.out (by kernel_rfl)) (fun _ _ _ h=>h) (Or.inl ⟨by rfl,?_⟩) ?_ ?_;rotate_left
            ·intro w'
             go_simp
             with_reducible rfl
            rotate_left
            ·simp only [Act.put,List.setIfInBounds_toArray,List.set_cons_zero,List.set_cons_succ,y0a,y0b]
             rfl
            refine y0e (i:=1) (N:=some 17) (v:=?_) (a':=?_) #[true,true,false,false,false,false,false,false,false,false,false,false,false,false,false] rfl rfl (y0i HT_.out (by kernel_rfl)) (fun _ _ _ h=>h) (Or.inl ⟨by rfl,?_⟩) ?_ ?_;rotate_left
            ·intro w'
             go_simp
             with_reducible rfl
            rotate_left
            ·simp only [Act.put,List.setIfInBounds_toArray,List.set_cons_zero,List.set_cons_succ,y0a,y0b]
             rfl
            refine y0e (i:=2) (N:=some 18) (v:=?_) (a':=?_) #[true,true,true,false,false,false,false,false,false,false,false,false,false,false,false] rfl rfl (y0i HT_.out (by kernel_rfl)) (fun _ _ _ h=>h) (Or.inl ⟨by rfl,?_⟩) ?_ ?_;rotate_left
            ·intro w'
             go_simp
             with_reducible rfl
            rotate_left
            ·simp only [Act.put,List.setIfInBounds_toArray,List.set_cons_zero,List.set_cons_succ,y0a,y0b]
             rfl
            refine y0e (i:=3) (N:=some 19) (v:=?_) (a':=?_) #[true,true,true,true,false,false,false,false,false,false,false,false,false,false,false] rfl rfl (y0i HT_.out (by kernel_rfl)) (fun _ _ _ h=>h) (Or.inl ⟨by rfl,?_⟩) ?_ ?_;rotate_left
            ·intro w'
             go_simp
             with_reducible rfl
            rotate_left
            ·simp only [Act.put,List.setIfInBounds_toArray,List.set_cons_zero,List.set_cons_succ,y0a,y0b]
             rfl
            refine y0e (i:=4) (N:=some 20) (v:=?_) (a':=?_) #[true,true,true,true,true,false,false,false,false,false,false,false,false,false,false] rfl rfl (y0i HT_.out (by kernel_rfl)) (fun _ _ _ h=>h) (Or.inl ⟨by rfl,?_⟩) ?_ ?_;rotate_left
            ·intro w'
             go_simp
             with_reducible rfl
            rotate_left
            ·simp only [Act.put,List.setIfInBounds_toArray,List.set_cons_zero,List.set_cons_succ,y0a,y0b]
             rfl
            refine y0e (i:=5) (N:=some 21) (v:=?_) (a':=?_) #[true,true,true,true,true,true,false,false,false,false,false,false,false,false,false] rfl rfl (y0i HT_.out (by kernel_rfl)) (fun _ _ _ h=>h) (Or.inl ⟨by rfl,?_⟩) ?_ ?_;rotate_left
            ·intro w'
             go_simp
             with_reducible rfl
            rotate_left
            ·simp only [Act.put,List.setIfInBounds_toArray,List.set_cons_zero,List.set_cons_succ,y0a,y0b]
             rfl
            refine y0e (i:=6) (N:=some 22) (v:=?_) (a':=?_) #[true,true,true,true,true,true,true,false,false,false,false,false,false,false,false] rfl rfl (y0i HT_.out (by kernel_rfl)) (fun _ _ _ h=>h) (Or.inl ⟨by rfl,?_⟩) ?_ ?_;rotate_left
            ·intro w'
             go_simp
             with_reducible rfl
            rotate_left
            ·simp only [Act.put,List.setIfInBounds_toArray,List.set_cons_zero,List.set_cons_succ,y0a,y0b]
             rfl
            refine y0e (i:=8) (N:=some 24) (v:=?_) (a':=?_) #[true,true,true,true,true,true,true,false,true,false,false,false,false,false,false] rfl rfl (y0i HT_.out (by kernel_rfl)) (fun _ _ _ h=>h) (Or.inl ⟨by rfl,?_⟩) ?_ ?_;rotate_left
            ·intro w'
             go_simp
             with_reducible rfl
            rotate_left
            ·simp only [Act.put,List.setIfInBounds_toArray,List.set_cons_zero,List.set_cons_succ,y0a,y0b]
             rfl
            refine y0e (i:=9) (N:=some 25) (v:=?_) (a':=?_) #[true,true,true,true,true,true,true,false,true,true,false,false,false,false,false] rfl rfl (y0i HT_.out (by kernel_rfl)) (fun _ _ _ h=>h) (Or.inl ⟨by rfl,?_⟩) ?_ ?_;rotate_left
            ·intro w'
             go_simp
             with_reducible rfl
            rotate_left
            ·simp only [Act.put,List.setIfInBounds_toArray,List.set_cons_zero,List.set_cons_succ,y0a,y0b]
             rfl
            refine y0e (i:=10) (N:=some 26) (v:=?_) (a':=?_) #[true,true,true,true,true,true,true,false,true,true,true,false,false,false,false] rfl rfl (y0i HT_.out (by kernel_rfl)) (fun _ _ _ h=>h) (Or.inl ⟨by rfl,?_⟩) ?_ ?_;rotate_left
            ·intro w'
             go_simp
             with_reducible rfl
            rotate_left
            ·simp only [Act.put,List.setIfInBounds_toArray,List.set_cons_zero,List.set_cons_succ,y0a,y0b]
             rfl
            refine y0e (i:=11) (N:=some 27) (v:=?_) (a':=?_) #[true,true,true,true,true,true,true,false,true,true,true,true,false,false,false] rfl rfl (y0i HT_.out (by kernel_rfl)) (fun _ _ _ h=>h) (Or.inl ⟨by rfl,?_⟩) ?_ ?_;rotate_left
            ·intro w'
             go_simp
             with_reducible rfl
            rotate_left
            ·simp only [Act.put,List.setIfInBounds_toArray,List.set_cons_zero,List.set_cons_succ,y0a,y0b]
             rfl
            refine y1l (i:=7) (N:=some 23) (v:=?_) (a':=?_) #[true,true,true,true,true,true,true,true,true,true,true,true,false,false,false] rfl rfl (y1k HT_.out HW_.out (by kernel_rfl)) (fun _ _ _ h=>h) (Or.inl ⟨by rfl,?_⟩) hHeld ?_ ?_;rotate_left
            ·rintro w' ⟨s0,s1⟩
             go_simp
             with_reducible rfl
            rotate_left
            ·simp only [Act.put,List.setIfInBounds_toArray,List.set_cons_zero,List.set_cons_succ,y0a,y0b]
             rfl
            refine y1l (i:=12) (N:=some 28) (v:=?_) (a':=?_) #[true,true,true,true,true,true,true,true,true,true,true,true,true,false,false] rfl rfl (y1k HT_.out HW_.out (by kernel_rfl)) (fun _ _ _ h=>h) (Or.inl ⟨by rfl,?_⟩) hHeld ?_ ?_;rotate_left
            ·rintro w' ⟨s0,s1⟩
             go_simp
             with_reducible rfl
            rotate_left
            ·simp only [Act.put,List.setIfInBounds_toArray,List.set_cons_zero,List.set_cons_succ,y0a,y0b]
             rfl
            refine one_ (i:=13) (N:=some 29) #[true,true,true,true,true,true,true,true,true,true,true,true,true,true,false] rfl rfl (y4j HT_.out (by kernel_rfl)) (by decide) (fun K hK=>?_);refine y70 Tra.func83 (by kernel_rfl) rfl #[.int .i64 (rd x0_2 x7_2),.int .i64 (rd x0_2 (ji8))] (by rfl) rfl rfl (by (try simp only [List.map_toArray,List.map_cons,List.map_nil]);first|done|(simp only [hji8];rfl)|rfl|(simp only [List.length_drop,List.length_take];rfl)) ?_
            with_reducible refine (cmp_Less_int.calls (rd x0_2 x7_2) (rd x0_2 (ji8)) true _ A11.out).mono ?_
            rintro e w' ⟨rfl,⟨nd,rfl⟩⟩
            refine ⟨_,rfl,?_⟩;refine hK.out _ _ ⟨hHeld.1,hHeld.2⟩ (fun hHeld=>?_);clear hK K;refine y43 (a':=?_) ?_ ?_;rotate_left
            ·show Act.put _ (some 29) _=_
             simp only [Act.put,List.setIfInBounds_toArray,List.set_cons_zero,List.set_cons_succ,y0a,y0b];rfl
            refine y0e (i:=14) (N:=some 30) (v:=?_) (a':=?_) #[true,true,true,true,true,true,true,true,true,true,true,true,true,true,true] rfl rfl (y0i HT_.out (by kernel_rfl)) (fun _ _ _ h=>h) (Or.inl ⟨by rfl,?_⟩) ?_ ?_;rotate_left
            ·intro w'
             go_simp
             with_reducible rfl
            rotate_left
            ·simp only [Act.put,List.setIfInBounds_toArray,List.set_cons_zero,List.set_cons_succ,y0a,y0b]
             rfl
            refine y3x (y3p HT_.out (by kernel_rfl)) ?_
            try go_wp2
            (try (rw [yem w15];generalize hq_:World.drewN w15 _=w15;have n0_:As0 (Kd.R (Kd.int .i64) 3 w15 w0.heap.size (fun k_=>(P0_ k_∨w.heap.size≤k_)) (.slice (some ad108) x0_2.length co16) x0_2):=⟨by rw [← hq_];exact (by (with_reducible repeat (first|apply Kd.R_alloc|apply Kd.R_drewN|apply Kd.R_drew));exact HO_0.out)⟩;have n1_:As0 (Kept w w15 (fun k_=>P0_ k_)):=⟨by rw [← hq_];exact (by repeat (first|(with_reducible first|exact HK.out|apply Kept.alloc|apply Kept.drewN|apply Kept.drew)|exact HK.out))⟩;have n2_:As0 (Below w0.heap.size w0 w15):=⟨by rw [← hq_];exact (by repeat (with_reducible first|exact HB.out|apply y01|apply y00|apply y02))⟩;clear HO_0 HK HB hq_;have HO_0:=n0_;have HK:=n1_;have HB:=n2_;clear n0_ n1_ n2_))
            have n0_:=As0.mk (Kd.R_drew HO_0.out);have n1_:=As0.mk (Kept.drew HK.out);have n2_:=As0.mk (y02 HB.out);clear HO_0;clear HK;clear HB;have HO_0:=n0_;have HK:=n1_;have HB:=n2_;clear n0_ n1_ n2_;have p111:0≤((ji8):Int):=zDo (by with_reducible assumption);have q111:(ji8)<(x0_2.length:Int):=zDo (by with_reducible assumption);obtain ⟨ad111,e111,hx111_0⟩:=Kd.at_int (Kd.R_reads' HO_0.out).2.2 (ji8) p111 q111;obtain rfl:ad108=ad111:=(by injection e111)
            replace p111:=eq_true p111;replace q111:=eq_true q111;have p112:0≤(x7_2:Int):=zDo (by with_reducible assumption);have q112:x7_2<(x0_2.length:Int):=zDo (by with_reducible assumption);obtain ⟨ad112,e112,hx112_0⟩:=Kd.at_int (Kd.R_reads' HO_0.out).2.2 x7_2 p112 q112;obtain rfl:ad108=ad112:=(by injection e112)
            replace p112:=eq_true p112;replace q112:=eq_true q112;have p13:0≤(x7_2:Int):=zDo (by with_reducible assumption);have q13:(x7_2:Int)<((x0_2.length:Int):Int):=zDo (by with_reducible assumption);obtain ⟨go13,co13,eo13,gb13,gl13,cl13,HG13⟩:=Kd.R_form HO_0.out (by omega)
            (first|cases eo13|(injection eo13 with ea_ en_ ec_;(first|subst ea_|(injection ea_ with ea_;subst ea_));subst ec_;clear en_))
            have GB13:=As0.mk gb13;have GG13:=As0.mk HG13;clear gb13 gl13 HG13;have HMgo13:=As0.mk (show (P0_ go13∨w.heap.size≤go13) from (HO_0.out.1 _ rfl))
            (first|simp only [y2t] at hx108_0|skip)
            (first|simp only [y2t] at hx109_0|skip)
            (first|simp only [y2t] at hx111_0|skip)
            (first|simp only [y2t] at hx112_0|skip)
            obtain ⟨hx13_0,hf13_0⟩:=Kd.R_celln 0 HO_0.out (x7_2:Int) p13 q13;replace p13:=eq_true p13;replace q13:=eq_true q13;have HP18:=Kd.R_putn HO_0.out (x7_2:Int) (rd x0_2 (ji8));rw [← Ny113.out] at HP18;have HQ18:=As0.mk HP18;clear HP18;have p14:0≤((ji8):Int):=zDo (by with_reducible assumption);have q14:((ji8):Int)<((x0_2.length:Int):Int):=zDo (by with_reducible assumption);obtain ⟨hx14_0,hf14_0⟩:=Kd.R_celln 0 HQ18.out ((ji8):Int) p14 q14;replace p14:=eq_true p14;replace q14:=eq_true q14;have HP19:=Kd.R_putn HQ18.out ((ji8):Int) (rd x0_2 x7_2);rw [← Ny114.out] at HP19;have HQ19:=As0.mk HP19;clear HP19;refine y2d (n:=18) (S:=fun w'=>w'.cell? ⟨go13,((ji8)).toNat,none⟩=some (.int .i64 (rd x0_2 (ji8)))∧w'.cell? ⟨go13,(x7_2).toNat,none⟩=some (.int .i64 (rd x0_2 x7_2))) (ds:=[15,17]) #[false,false,false,false,false,false,false,false,false,false,false,false,false,false,false,false,false,false] (by kernel_rfl) rfl rfl ⟨hx111_0,hx112_0⟩ (fun hHeld=>?_);refine y25 slices_insertionSortOrdered_int.tab6 slices_insertionSortOrdered_int.bits6 (fun HT_ HW_=>?_);generalize w15.drew=w17 at HO_0 HK HB GG13 HQ18 HQ19 hf13_0 hf14_0 hx108_0 hx109_0 hx111_0 hx112_0 hx13_0 hx14_0 hHeld ⊢;refine y0e (i:=0) (N:=some 33) (v:=?_) (a':=?_) #[true,false,false,false,false,false,false,false,false,false,false,false,false,false,false,false,false,false] rfl rfl (y0i HT_.out (by kernel_rfl)) (fun _ _ _ h=>h) (Or.inl ⟨by rfl,?_⟩) ?_ ?_;rotate_left
            ·intro w'
             go_simp
             with_reducible rfl
            rotate_left
            ·simp only [Act.put,List.setIfInBounds_toArray,List.set_cons_zero,List.set_cons_succ,y0a,y0b]
             rfl
            refine y0e (i:=1) (N:=some 34) (v:=?_) (a':=?_) #[true,true,false,false,false,false,false,false,false,false,false,false,false,false,false,false,false,false] rfl rfl (y0i HT_.out (by kernel_rfl)) (fun _ _ _ h=>h) (Or.inl ⟨by rfl,?_⟩) ?_ ?_;rotate_left
            ·intro w'
             go_simp
             with_reducible rfl
            rotate_left
            ·simp only [Act.put,List.setIfInBounds_toArray,List.set_cons_zero,List.set_cons_succ,y0a,y0b]
             rfl
            refine y0e (i:=2) (N:=some 35) (v:=?_) (a':=?_) #[true,true,true,false,false,false,false,false,false,false,false,false,false,false,false,false,false,false] rfl rfl (y0i HT_.out (by kernel_rfl)) (fun _ _ _ h=>h) (Or.inl ⟨by rfl,?_⟩) ?_ ?_;rotate_left
            ·intro w'
             go_simp
             with_reducible rfl
            rotate_left
            ·simp only [Act.put,List.setIfInBounds_toArray,List.set_cons_zero,List.set_cons_succ,y0a,y0b]
             rfl
            refine y0e (i:=3) (N:=some 36) (v:=?_) (a':=?_) #[true,true,true,true,false,false,false,false,false,false,false,false,false,false,false,false,false,false] rfl rfl (y0i HT_.out (by kernel_rfl)) (fun _ _ _ h=>h) (Or.inl ⟨by rfl,?_⟩) ?_ ?_;rotate_left
            ·intro w'
             go_simp
             with_reducible rfl
            rotate_left
            ·simp only [Act.put,List.setIfInBounds_toArray,List.set_cons_zero,List.set_cons_succ,y0a,y0b]
             rfl
            refine y0e (i:=4) (N:=some 37) (v:=?_) (a':=?_) #[true,true,true,true,true,false,false,false,false,false,false,false,false,false,false,false,false,false] rfl rfl (y0i HT_.out (by kernel_rfl)) (fun _ _ _ h=>h) (Or.inl ⟨by rfl,?_⟩) ?_ ?_;rotate_left
            ·intro w'
             go_simp
             with_reducible rfl
            rotate_left
            ·simp only [Act.put,List.setIfInBounds_toArray,List.set_cons_zero,List.set_cons_succ,y0a,y0b]
             rfl
            refine y0e (i:=5) (N:=some 38) (v:=?_) (a':=?_) #[true,true,true,true,true,true,false,false,false,false,false,false,false,false,false,false,false,false] rfl rfl (y0i HT_.out (by kernel_rfl)) (fun _ _ _ h=>h) (Or.inl ⟨by rfl,?_⟩) ?_ ?_;rotate_left
            ·intro w'
             go_simp
             with_reducible rfl
            rotate_left
            ·simp only [Act.put,List.setIfInBounds_toArray,List.set_cons_zero,List.set_cons_succ,y0a,y0b]
             rfl
            refine y0e (i:=6) (N:=some 39) (v:=?_) (a':=?_) #[true,true,true,true,true,true,true,false,false,false,false,false,false,false,false,false,false,false] rfl rfl (y0i HT_.out (by kernel_rfl)) (fun _ _ _ h=>h) (Or.inl ⟨by rfl,?_⟩) ?_ ?_;rotate_left
            ·intro w'
             go_simp
             with_reducible rfl
            rotate_left
            ·simp only [Act.put,List.setIfInBounds_toArray,List.set_cons_zero,List.set_cons_succ,y0a,y0b]
             rfl
            refine y0e (i:=7) (N:=some 40) (v:=?_) (a':=?_) #[true,true,true,true,true,true,true,true,false,false,false,false,false,false,false,false,false,false] rfl rfl (y0i HT_.out (by kernel_rfl)) (fun _ _ _ h=>h) (Or.inl ⟨by rfl,?_⟩) ?_ ?_;rotate_left
            ·intro w'
             go_simp
             with_reducible rfl
            rotate_left
            ·simp only [Act.put,List.setIfInBounds_toArray,List.set_cons_zero,List.set_cons_succ,y0a,y0b]
             rfl
            refine y0e (i:=8) (N:=some 41) (v:=?_) (a':=?_) #[true,true,true,true,true,true,true,true,true,false,false,false,false,false,false,false,false,false] rfl rfl (y0i HT_.out (by kernel_rfl)) (fun _ _ _ h=>h) (Or.inl ⟨by rfl,?_⟩) ?_ ?_;rotate_left
            ·intro w'
             go_simp
             with_reducible rfl
            rotate_left
            ·simp only [Act.put,List.setIfInBounds_toArray,List.set_cons_zero,List.set_cons_succ,y0a,y0b]
             rfl
            refine y0e (i:=10) (N:=some 43) (v:=?_) (a':=?_) #[true,true,true,true,true,true,true,true,true,false,true,false,false,false,false,false,false,false] rfl rfl (y0i HT_.out (by kernel_rfl)) (fun _ _ _ h=>h) (Or.inl ⟨by rfl,?_⟩) ?_ ?_;rotate_left
            ·intro w'
             go_simp
             with_reducible rfl
            rotate_left
            ·simp only [Act.put,List.setIfInBounds_toArray,List.set_cons_zero,List.set_cons_succ,y0a,y0b]
             rfl
            refine y0e (i:=11) (N:=some 44) (v:=?_) (a':=?_) #[true,true,true,true,true,true,true,true,true,false,true,true,false,false,false,false,false,false] rfl rfl (y0i HT_.out (by kernel_rfl)) (fun _ _ _ h=>h) (Or.inl ⟨by rfl,?_⟩) ?_ ?_;rotate_left
            ·intro w'
             go_simp
             with_reducible rfl
            rotate_left
            ·simp only [Act.put,List.setIfInBounds_toArray,List.set_cons_zero,List.set_cons_succ,y0a,y0b]
             rfl
            refine y0e (i:=12) (N:=some 45) (v:=?_) (a':=?_) #[true,true,true,true,true,true,true,true,true,false,true,true,true,false,false,false,false,false] rfl rfl (y0i HT_.out (by kernel_rfl)) (fun _ _ _ h=>h) (Or.inl ⟨by rfl,?_⟩) ?_ ?_;rotate_left
            ·intro w'
             go_simp
             with_reducible rfl
            rotate_left
            ·simp only [Act.put,List.setIfInBounds_toArray,List.set_cons_zero,List.set_cons_succ,y0a,y0b]
             rfl
            refine y1l (i:=9) (N:=some 42) (v:=?_) (a':=?_) #[true,true,true,true,true,true,true,true,true,true,true,true,true,false,false,false,false,false] rfl rfl (y1k HT_.out HW_.out (by kernel_rfl)) (fun _ _ _ h=>h) (Or.inl ⟨by rfl,?_⟩) hHeld ?_ ?_;rotate_left
            ·rintro w' ⟨s0,s1⟩
             go_simp
             with_reducible rfl
            rotate_left
            ·simp only [Act.put,List.setIfInBounds_toArray,List.set_cons_zero,List.set_cons_succ,y0a,y0b]
             rfl
            refine y1l (i:=13) (N:=some 46) (v:=?_) (a':=?_) #[true,true,true,true,true,true,true,true,true,true,true,true,true,true,false,false,false,false] rfl rfl (y1k HT_.out HW_.out (by kernel_rfl)) (fun _ _ _ h=>h) (Or.inl ⟨by rfl,?_⟩) hHeld ?_ ?_;rotate_left
            ·rintro w' ⟨s0,s1⟩
             go_simp
             with_reducible rfl
            rotate_left
            ·simp only [Act.put,List.setIfInBounds_toArray,List.set_cons_zero,List.set_cons_succ,y0a,y0b]
             rfl
            refine y0e (i:=14) (N:=some 47) (v:=?_) (a':=?_) #[true,true,true,true,true,true,true,true,true,true,true,true,true,true,true,false,false,false] rfl rfl (y0i HT_.out (by kernel_rfl)) (fun _ _ _ h=>h) (Or.inl ⟨by rfl,?_⟩) ?_ ?_;rotate_left
            ·intro w'
             go_simp
             with_reducible rfl
            rotate_left
            ·simp only [Act.put,List.setIfInBounds_toArray,List.set_cons_zero,List.set_cons_succ,y0a,y0b]
             rfl
            refine y7h (i:=15) (N:=none) #[true,true,true,true,true,true,true,true,true,true,true,true,true,true,true,true,false,false] rfl rfl (y4j HT_.out (by kernel_rfl)) (by decide) (fun K hK=>?_);refine y5w (w1:=?_) (by rfl) rfl ?_ ?_;rotate_left
            ·go_simp
             rfl
            refine hK.out _ _ ?_;clear hK K;refine y0e (i:=16) (N:=some 48) (v:=?_) (a':=?_) #[true,true,true,true,true,true,true,true,true,true,true,true,true,true,true,true,true,false] rfl rfl (y0i HT_.out (by kernel_rfl)) (fun _ _ _ h=>h) (Or.inl ⟨by rfl,?_⟩) ?_ ?_;rotate_left
            ·intro w'
             go_simp
             with_reducible rfl
            rotate_left
            ·simp only [Act.put,List.setIfInBounds_toArray,List.set_cons_zero,List.set_cons_succ,y0a,y0b]
             rfl
            refine y7h (i:=17) (N:=none) #[true,true,true,true,true,true,true,true,true,true,true,true,true,true,true,true,true,true] rfl rfl (y4j HT_.out (by kernel_rfl)) (by decide) (fun K hK=>?_);refine y5w (w1:=?_) (by rfl) rfl ?_ ?_;rotate_left
            ·go_simp
             rfl
            refine hK.out _ _ ?_;clear hK K;refine y3x (y3p HT_.out (by kernel_rfl)) ?_
            try go_wp2
            go_roundg k2
            case measure=>have:=HK1.out;have:=HK2.out;omega
            case rel=>exact ⟨(y114),(ji8),(by first|rfl|(simp;done)|(simp only [← hji8]<;>(first|rfl|simp))|(simp [*];done)),H',⟨by have:=HK1.out;have:=HK2.out;omega⟩,⟨by (with_reducible repeat (first|apply Kd.R_alloc|apply Kd.R_drewN|apply Kd.R_drew));exact HQ19.out⟩,⟨by repeat (first|(with_reducible first|exact HK.out|apply Kept.alloc|apply Kept.drewN|apply Kept.drew|refine Kept.setCell ?_ HMgo13.out _|refine Kept.setCell ?_ HMgo13.out _)|exact HK.out)⟩,⟨by repeat (with_reducible first|exact HB.out|apply y01|apply y00|apply y02|refine y0j ?_ GB13.out|refine y0j ?_ GB13.out)⟩⟩
           ·replace c12:=Bool.eq_false_iff.mpr c12
            subst c12;have H1:(slices_insertionSortOrdered_int.l0 k2 x0_2 a1 a2 (wrap64 (x6_1+1)))=some r:=by rw [if_neg (show ¬ (false=true) by decide)] at H;exact H
            clear H;have H:=H1;clear H1;have H':=As0.mk H;clear H
            try go_wp2
            have n0_:=As0.mk (Kd.R_drew HO_0.out);have n1_:=As0.mk (Kept.drew HK.out);have n2_:=As0.mk (y02 HB.out);clear HO_0;clear HK;clear HB;have HO_0:=n0_;have HK:=n1_;have HB:=n2_;clear n0_ n1_ n2_;obtain ⟨Ao21,co21,eo21⟩:=Kd.R_slice HO_0.out
            (first|subst eo21|(injection eo21 with f1_ f2_ f3_;have f4_:=f1_.symm;have f5_:=f3_.symm;clear f1_ f2_ f3_;subst f4_;subst f5_))
            have p108:0≤(x7_2:Int):=zDo (by with_reducible assumption);have q108:x7_2<(x0_2.length:Int):=zDo (by with_reducible assumption);obtain ⟨ad108,e108,hx108_0⟩:=Kd.at_int (Kd.R_reads' HO_0.out).2.2 x7_2 p108 q108;cases e108
            replace p108:=eq_true p108;replace q108:=eq_true q108;have p109:0≤((ji8):Int):=zDo (by with_reducible assumption);have q109:(ji8)<(x0_2.length:Int):=zDo (by with_reducible assumption);obtain ⟨ad109,e109,hx109_0⟩:=Kd.at_int (Kd.R_reads' HO_0.out).2.2 (ji8) p109 q109;obtain rfl:ad108=ad109:=(by injection e109)
            replace p109:=eq_true p109;replace q109:=eq_true q109;refine y2d (n:=15) (S:=fun w'=>w'.cell? (ad108.add (x7_2).toNat)=some (.int .i64 (rd x0_2 x7_2))∧w'.cell? (ad108.add ((ji8)).toNat)=some (.int .i64 (rd x0_2 (ji8)))) (ds:=[]) #[false,false,false,false,false,false,false,false,false,false,false,false,false,false,false] (by kernel_rfl) rfl rfl ⟨hx108_0,hx109_0⟩ (fun hHeld=>?_);refine y25 slices_insertionSortOrdered_int.tab4 slices_insertionSortOrdered_int.bits4 (fun HT_ HW_=>?_);generalize wr.drew=w20 at HO_0 HK HB hx108_0 hx109_0 hHeld ⊢;refine y0e (i:=0) (N:=some 16) (v:=?_) (a':=?_) #[true,false,false,false,false,false,false,false,false,false,false,false,false,false,false] rfl rfl (y0i HT_.out (by kernel_rfl)) (fun _ _ _ h=>h) (Or.inl ⟨by rfl,?_⟩) ?_ ?_;rotate_left
            ·intro w'
             go_simp
             with_reducible rfl
            rotate_left
            ·simp only [Act.put,List.setIfInBounds_toArray,List.set_cons_zero,List.set_cons_succ,y0a,y0b]
             rfl
            refine y0e (i:=1) (N:=some 17) (v:=?_) (a':=?_) #[true,true,false,false,false,false,false,false,false,false,false,false,false,false,false] rfl rfl (y0i HT_.out (by kernel_rfl)) (fun _ _ _ h=>h) (Or.inl ⟨by rfl,?_⟩) ?_ ?_;rotate_left
            ·intro w'
             go_simp
             with_reducible rfl
            rotate_left
            ·simp only [Act.put,List.setIfInBounds_toArray,List.set_cons_zero,List.set_cons_succ,y0a,y0b]
             rfl
            refine y0e (i:=2) (N:=some 18) (v:=?_) (a':=?_) #[true,true,true,false,false,false,false,false,false,false,false,false,false,false,false] rfl rfl (y0i HT_.out (by kernel_rfl)) (fun _ _ _ h=>h) (Or.inl ⟨by rfl,?_⟩) ?_ ?_;rotate_left
            ·intro w'
             go_simp
             with_reducible rfl
            rotate_left
            ·simp only [Act.put,List.setIfInBounds_toArray,List.set_cons_zero,List.set_cons_succ,y0a,y0b]
             rfl
            refine y0e (i:=3) (N:=some 19) (v:=?_) (a':=?_) #[true,true,true,true,false,false,false,false,false,false,false,false,false,false,false] rfl rfl (y0i HT_.out (by kernel_rfl)) (fun _ _ _ h=>h) (Or.inl ⟨by rfl,?_⟩) ?_ ?_;rotate_left
            ·intro w'
             go_simp
             with_reducible rfl
            rotate_left
            ·simp only [Act.put,List.setIfInBounds_toArray,List.set_cons_zero,List.set_cons_succ,y0a,y0b]
             rfl
            refine y0e (i:=4) (N:=some 20) (v:=?_) (a':=?_) #[true,true,true,true,true,false,false,false,false,false,false,false,false,false,false] rfl rfl (y0i HT_.out (by kernel_rfl)) (fun _ _ _ h=>h) (Or.inl ⟨by rfl,?_⟩) ?_ ?_;rotate_left
            ·intro w'
             go_simp
             with_reducible rfl
            rotate_left
            ·simp only [Act.put,List.setIfInBounds_toArray,List.set_cons_zero,List.set_cons_succ,y0a,y0b]
             rfl
            refine y0e (i:=5) (N:=some 21) (v:=?_) (a':=?_) #[true,true,true,true,true,true,false,false,false,false,false,false,false,false,false] rfl rfl (y0i HT_.out (by kernel_rfl)) (fun _ _ _ h=>h) (Or.inl ⟨by rfl,?_⟩) ?_ ?_;rotate_left
            ·intro w'
             go_simp
             with_reducible rfl
            rotate_left
            ·simp only [Act.put,List.setIfInBounds_toArray,List.set_cons_zero,List.set_cons_succ,y0a,y0b]
             rfl
            refine y0e (i:=6) (N:=some 22) (v:=?_) (a':=?_) #[true,true,true,true,true,true,true,false,false,false,false,false,false,false,false] rfl rfl (y0i HT_.out (by kernel_rfl)) (fun _ _ _ h=>h) (Or.inl ⟨by rfl,?_⟩) ?_ ?_;rotate_left
            ·intro w'
             go_simp
             with_reducible rfl
            rotate_left
            ·simp only [Act.put,List.setIfInBounds_toArray,List.set_cons_zero,List.set_cons_succ,y0a,y0b]
             rfl
            refine y0e (i:=8) (N:=some 24) (v:=?_) (a':=?_) #[true,true,true,true,true,true,true,false,true,false,false,false,false,false,false] rfl rfl (y0i HT_.out (by kernel_rfl)) (fun _ _ _ h=>h) (Or.inl ⟨by rfl,?_⟩) ?_ ?_;rotate_left
            ·intro w'
             go_simp
             with_reducible rfl
            rotate_left
            ·simp only [Act.put,List.setIfInBounds_toArray,List.set_cons_zero,List.set_cons_succ,y0a,y0b]
             rfl
            refine y0e (i:=9) (N:=some 25) (v:=?_) (a':=?_) #[true,true,true,true,true,true,true,false,true,true,false,false,false,false,false] rfl rfl (y0i HT_.out (by kernel_rfl)) (fun _ _ _ h=>h) (Or.inl ⟨by rfl,?_⟩) ?_ ?_;rotate_left
            ·intro w'
             go_simp
             with_reducible rfl
            rotate_left
            ·simp only [Act.put,List.setIfInBounds_toArray,List.set_cons_zero,List.set_cons_succ,y0a,y0b]
             rfl
            refine y0e (i:=10) (N:=some 26) (v:=?_) (a':=?_) #[true,true,true,true,true,true,true,false,true,true,true,false,false,false,false] rfl rfl (y0i HT_.out (by kernel_rfl)) (fun _ _ _ h=>h) (Or.inl ⟨by rfl,?_⟩) ?_ ?_;rotate_left
            ·intro w'
             go_simp
             with_reducible rfl
            rotate_left
            ·simp only [Act.put,List.setIfInBounds_toArray,List.set_cons_zero,List.set_cons_succ,y0a,y0b]
             rfl
            refine y0e (i:=11) (N:=some 27) (v:=?_) (a':=?_) #[true,true,true,true,true,true,true,false,true,true,true,true,false,false,false] rfl rfl (y0i HT_.out (by kernel_rfl)) (fun _ _ _ h=>h) (Or.inl ⟨by rfl,?_⟩) ?_ ?_;rotate_left
            ·intro w'
             go_simp
             with_reducible rfl
            rotate_left
            ·simp only [Act.put,List.setIfInBounds_toArray,List.set_cons_zero,List.set_cons_succ,y0a,y0b]
             rfl
            refine y1l (i:=7) (N:=some 23) (v:=?_) (a':=?_) #[true,true,true,true,true,true,true,true,true,true,true,true,false,false,false] rfl rfl (y1k HT_.out HW_.out (by kernel_rfl)) (fun _ _ _ h=>h) (Or.inl ⟨by rfl,?_⟩) hHeld ?_ ?_;rotate_left
            ·rintro w' ⟨s0,s1⟩
             go_simp
             with_reducible rfl
            rotate_left
            ·simp only [Act.put,List.setIfInBounds_toArray,List.set_cons_zero,List.set_cons_succ,y0a,y0b]
             rfl
            refine y1l (i:=12) (N:=some 28) (v:=?_) (a':=?_) #[true,true,true,true,true,true,true,true,true,true,true,true,true,false,false] rfl rfl (y1k HT_.out HW_.out (by kernel_rfl)) (fun _ _ _ h=>h) (Or.inl ⟨by rfl,?_⟩) hHeld ?_ ?_;rotate_left
            ·rintro w' ⟨s0,s1⟩
             go_simp
             with_reducible rfl
            rotate_left
            ·simp only [Act.put,List.setIfInBounds_toArray,List.set_cons_zero,List.set_cons_succ,y0a,y0b]
             rfl
            refine one_ (i:=13) (N:=some 29) #[true,true,true,true,true,true,true,true,true,true,true,true,true,true,false] rfl rfl (y4j HT_.out (by kernel_rfl)) (by decide) (fun K hK=>?_);refine y70 Tra.func83 (by kernel_rfl) rfl #[.int .i64 (rd x0_2 x7_2),.int .i64 (rd x0_2 (ji8))] (by rfl) rfl rfl (by (try simp only [List.map_toArray,List.map_cons,List.map_nil]);first|done|(simp only [hji8];rfl)|rfl|(simp only [List.length_drop,List.length_take];rfl)) ?_
            with_reducible refine (cmp_Less_int.calls (rd x0_2 x7_2) (rd x0_2 (ji8)) false _ A11.out).mono ?_
            rintro e w' ⟨rfl,⟨nd,rfl⟩⟩
            refine ⟨_,rfl,?_⟩;refine hK.out _ _ ⟨hHeld.1,hHeld.2⟩ (fun hHeld=>?_);clear hK K;refine y43 (a':=?_) ?_ ?_;rotate_left
            ·show Act.put _ (some 29) _=_
             simp only [Act.put,List.setIfInBounds_toArray,List.set_cons_zero,List.set_cons_succ,y0a,y0b];rfl
            refine y0e (i:=14) (N:=some 30) (v:=?_) (a':=?_) #[true,true,true,true,true,true,true,true,true,true,true,true,true,true,true] rfl rfl (y0i HT_.out (by kernel_rfl)) (fun _ _ _ h=>h) (Or.inl ⟨by rfl,?_⟩) ?_ ?_;rotate_left
            ·intro w'
             go_simp
             with_reducible rfl
            rotate_left
            ·simp only [Act.put,List.setIfInBounds_toArray,List.set_cons_zero,List.set_cons_succ,y0a,y0b]
             rfl
            refine y3x (y3p HT_.out (by kernel_rfl)) ?_
            try go_wp2
            go_roundg k2
            case measure=>have:=HK1.out;have:=HK2.out;omega
            case rel=>exact ⟨(x0_2),(wrap64 (x6_1+1)),(by first|rfl|(simp;done)|(simp [*];done)),H',⟨by have:=HK1.out;have:=HK2.out;omega⟩,⟨by (with_reducible repeat (first|apply Kd.R_alloc|apply Kd.R_drewN|apply Kd.R_drew));exact HO_0.out⟩,⟨by repeat (first|(with_reducible first|exact HK.out|apply Kept.alloc|apply Kept.drewN|apply Kept.drew)|exact HK.out)⟩,⟨by repeat (with_reducible first|exact HB.out|apply y01|apply y00|apply y02)⟩⟩
          ·rw [if_neg c10] at H
           exact absurd H (by simp)
         ·rw [if_neg c9] at H
          exact absurd H (by simp)
        ·rw [if_neg c7] at H
         exact absurd H (by simp)
       ·rw [if_neg c6] at H
        exact absurd H (by simp)
      ·rw [if_neg c5] at H
       have c5b0:decide (a1<x7_2)=false:=zDf c5;clear c5;have H':=As0.mk H;clear H
       try go_wp2
       have n0_:=As0.mk (Kd.R_drew HO_0.out);have n1_:=As0.mk (Kept.drew HK.out);have n2_:=As0.mk (y02 HB.out);clear HO_0;clear HK;clear HB;have HO_0:=n0_;have HK:=n1_;have HB:=n2_;clear n0_ n1_ n2_;refine y2d (n:=15) (S:=fun w'=>True) (ds:=[]) #[false,false,false,false,false,false,false,false,false,false,false,false,false,false,false] (by kernel_rfl) rfl rfl trivial (fun hHeld=>?_);refine y25 slices_insertionSortOrdered_int.tab4 slices_insertionSortOrdered_int.bits4 (fun HT_ HW_=>?_);generalize wr.drew=w22 at HO_0 HK HB hHeld ⊢;refine y0e (i:=0) (N:=some 16) (v:=?_) (a':=?_) #[true,false,false,false,false,false,false,false,false,false,false,false,false,false,false] rfl rfl (y0i HT_.out (by kernel_rfl)) (fun _ _ _ h=>h) (Or.inl ⟨by rfl,?_⟩) ?_ ?_;rotate_left
       ·intro w'
        go_simp
        with_reducible rfl
       rotate_left
       ·simp only [Act.put,List.setIfInBounds_toArray,List.set_cons_zero,List.set_cons_succ,y0a,y0b]
        rfl
       refine y0e (i:=1) (N:=some 17) (v:=?_) (a':=?_) #[true,true,false,false,false,false,false,false,false,false,false,false,false,false,false] rfl rfl (y0i HT_.out (by kernel_rfl)) (fun _ _ _ h=>h) (Or.inl ⟨by rfl,?_⟩) ?_ ?_;rotate_left
       ·intro w'
        go_simp
        with_reducible rfl
       rotate_left
       ·simp only [Act.put,List.setIfInBounds_toArray,List.set_cons_zero,List.set_cons_succ,y0a,y0b]
        rfl
       refine y0e (i:=2) (N:=some 18) (v:=?_) (a':=?_) #[true,true,true,false,false,false,false,false,false,false,false,false,false,false,false] rfl rfl (y0i HT_.out (by kernel_rfl)) (fun _ _ _ h=>h) (Or.inl ⟨by rfl,?_⟩) ?_ ?_;rotate_left
       ·intro w'
        go_simp
        with_reducible rfl
       rotate_left
       ·simp only [Act.put,List.setIfInBounds_toArray,List.set_cons_zero,List.set_cons_succ,y0a,y0b]
        rfl
       refine y0e (i:=3) (N:=some 19) (v:=?_) (a':=?_) #[true,true,true,true,false,false,false,false,false,false,false,false,false,false,false] rfl rfl (y0i HT_.out (by kernel_rfl)) (fun _ _ _ h=>h) (Or.inl ⟨by rfl,?_⟩) ?_ ?_;rotate_left
       ·intro w'
        go_simp
        with_reducible rfl
       rotate_left
       ·simp only [Act.put,List.setIfInBounds_toArray,List.set_cons_zero,List.set_cons_succ,y0a,y0b]
        rfl
       refine y0e (i:=4) (N:=some 20) (v:=undef) (a':=?_) #[true,true,true,true,true,false,false,false,false,false,false,false,false,false,false] rfl rfl (y0i HT_.out (by kernel_rfl)) (fun _ _ _ h=>h) (Or.inr ⟨by rfl,rfl⟩) ?_ ?_;rotate_left
       ·simp only [Act.put,List.setIfInBounds_toArray,List.set_cons_zero,List.set_cons_succ,y0a,y0b]
        rfl
       refine y0e (i:=5) (N:=some 21) (v:=undef) (a':=?_) #[true,true,true,true,true,true,false,false,false,false,false,false,false,false,false] rfl rfl (y0i HT_.out (by kernel_rfl)) (fun _ _ _ h=>h) (Or.inr ⟨by rfl,rfl⟩) ?_ ?_;rotate_left
       ·simp only [Act.put,List.setIfInBounds_toArray,List.set_cons_zero,List.set_cons_succ,y0a,y0b]
        rfl
       refine y0e (i:=6) (N:=some 22) (v:=undef) (a':=?_) #[true,true,true,true,true,true,true,false,false,false,false,false,false,false,false] rfl rfl (y0i HT_.out (by kernel_rfl)) (fun _ _ _ h=>h) (Or.inr ⟨by rfl,rfl⟩) ?_ ?_;rotate_left
       ·simp only [Act.put,List.setIfInBounds_toArray,List.set_cons_zero,List.set_cons_succ,y0a,y0b]
        rfl
       refine y0e (i:=7) (N:=some 23) (v:=undef) (a':=?_) #[true,true,true,true,true,true,true,true,false,false,false,false,false,false,false] rfl rfl (y0i HT_.out (by kernel_rfl)) (fun _ _ _ h=>h) (Or.inr ⟨by rfl,rfl⟩) ?_ ?_;rotate_left
       ·simp only [Act.put,List.setIfInBounds_toArray,List.set_cons_zero,List.set_cons_succ,y0a,y0b]
        rfl
       refine y0e (i:=8) (N:=some 24) (v:=undef) (a':=?_) #[true,true,true,true,true,true,true,true,true,false,false,false,false,false,false] rfl rfl (y0i HT_.out (by kernel_rfl)) (fun _ _ _ h=>h) (Or.inr ⟨by rfl,rfl⟩) ?_ ?_;rotate_left
       ·simp only [Act.put,List.setIfInBounds_toArray,List.set_cons_zero,List.set_cons_succ,y0a,y0b]
        rfl
       refine y0e (i:=9) (N:=some 25) (v:=undef) (a':=?_) #[true,true,true,true,true,true,true,true,true,true,false,false,false,false,false] rfl rfl (y0i HT_.out (by kernel_rfl)) (fun _ _ _ h=>h) (Or.inr ⟨by rfl,rfl⟩) ?_ ?_;rotate_left
       ·simp only [Act.put,List.setIfInBounds_toArray,List.set_cons_zero,List.set_cons_succ,y0a,y0b]
        rfl
       refine y0e (i:=10) (N:=some 26) (v:=undef) (a':=?_) #[true,true,true,true,true,true,true,true,true,true,true,false,false,false,false] rfl rfl (y0i HT_.out (by kernel_rfl)) (fun _ _ _ h=>h) (Or.inr ⟨by rfl,rfl⟩) ?_ ?_;rotate_left
       ·simp only [Act.put,List.setIfInBounds_toArray,List.set_cons_zero,List.set_cons_succ,y0a,y0b]
        rfl
       refine y0e (i:=11) (N:=some 27) (v:=undef) (a':=?_) #[true,true,true,true,true,true,true,true,true,true,true,true,false,false,false] rfl rfl (y0i HT_.out (by kernel_rfl)) (fun _ _ _ h=>h) (Or.inr ⟨by rfl,rfl⟩) ?_ ?_;rotate_left
       ·simp only [Act.put,List.setIfInBounds_toArray,List.set_cons_zero,List.set_cons_succ,y0a,y0b]
        rfl
       refine y0e (i:=12) (N:=some 28) (v:=undef) (a':=?_) #[true,true,true,true,true,true,true,true,true,true,true,true,true,false,false] rfl rfl (y0i HT_.out (by kernel_rfl)) (fun _ _ _ h=>h) (Or.inr ⟨by rfl,rfl⟩) ?_ ?_;rotate_left
       ·simp only [Act.put,List.setIfInBounds_toArray,List.set_cons_zero,List.set_cons_succ,y0a,y0b]
        rfl
       refine y0e (i:=13) (N:=some 29) (v:=undef) (a':=?_) #[true,true,true,true,true,true,true,true,true,true,true,true,true,true,false] rfl rfl (y0i HT_.out (by kernel_rfl)) (fun _ _ _ h=>h) (Or.inr ⟨by rfl,rfl⟩) ?_ ?_;rotate_left
       ·simp only [Act.put,List.setIfInBounds_toArray,List.set_cons_zero,List.set_cons_succ,y0a,y0b]
        rfl
       refine y0e (i:=14) (N:=some 30) (v:=?_) (a':=?_) #[true,true,true,true,true,true,true,true,true,true,true,true,true,true,true] rfl rfl (y0i HT_.out (by kernel_rfl)) (fun _ _ _ h=>h) (Or.inl ⟨by rfl,?_⟩) ?_ ?_;rotate_left
       ·intro w'
        go_simp
        with_reducible rfl
       rotate_left
       ·simp only [Act.put,List.setIfInBounds_toArray,List.set_cons_zero,List.set_cons_succ,y0a,y0b]
        rfl
       refine y3x (y3p HT_.out (by kernel_rfl)) ?_
       try go_wp2
       go_roundg k2
       case measure=>have:=HK1.out;have:=HK2.out;omega
       case rel=>exact ⟨(x0_2),(wrap64 (x6_1+1)),(by first|rfl|(simp;done)|(simp [*];done)),H',⟨by have:=HK1.out;have:=HK2.out;omega⟩,⟨by (with_reducible repeat (first|apply Kd.R_alloc|apply Kd.R_drewN|apply Kd.R_drew));exact HO_0.out⟩,⟨by repeat (first|(with_reducible first|exact HK.out|apply Kept.alloc|apply Kept.drewN|apply Kept.drew)|exact HK.out)⟩,⟨by repeat (with_reducible first|exact HB.out|apply y01|apply y00|apply y02)⟩⟩
   ·rw [if_neg c4] at H
    have c4b0:decide (x6_1<a2)=false:=zDf c4;clear c4;obtain rfl:=zSi H;go_wp2
    first|go_end0|((try simp only [Exit.inBlock,Exit.then]);refine bodyPost_ret (results_none rfl _ _ _) rfl ?_)
    exact ⟨by first|rfl|(simp [errW_none,errW_some]<;>rfl)|(simp [*,errW_none,errW_some]<;>rfl),by (with_reducible repeat (first|apply Kd.R_alloc|apply Kd.R_drewN|apply Kd.R_drew));exact HO_0.out,by repeat (with_reducible first|exact HB.out|apply y01|apply y00|apply y02),by repeat (first|(with_reducible first|exact HK.out|apply Kept.alloc|apply Kept.drewN|apply Kept.drew)|exact HK.out)⟩
end Go.Proofs.Ytfgcijifdbgpaaa.Q
namespace Go.Proofs.Ytfgcijifdbgpaaa.Tb
open Go.RowKit Go.Proofs.YtfgcijifdbgpaaaW.Wd Go.Proofs.YtfgcijifdbgpaaaW.La Go.Proofs.YtfgcijifdbgpaaaW.Mo
section
attribute [local go_sem] y0x y0v y16 y15 y0q y0p y0w y0u
abbrev land (x y:Int):Int:=Go.bits .and .i64 x y
abbrev yby (x y:Int):Int:=Go.bits .andNot .i64 x y
theorem c19 (x s:Int) (b:Nat) (w:World) (h:w.heap[b]?=some (.cells #[.int .i64 s] 3 (0,0))) :
  Calls Tra.prog 76 #[.int .i64 x,.pointer (some ⟨b,0,none⟩)] w fun e w'=>e=.returned (.bool (land x s == x))∧w'=w:=by
 have hc:=y07 h 0;simp only [List.getElem?_toArray,List.getElem?_cons_zero] at hc;clear h;go_enter Tra.func76,Tra.ntmps76
 go_wp2
 go_ret
 exact ⟨rfl,rfl⟩
theorem c17 (x s:Int) (b:Nat) (w:World) (h:w.heap[b]?=some (.cells #[.int .i64 s] 3 (0,0))) :
  Calls Tra.prog 74 #[.int .i64 x,.pointer (some ⟨b,0,none⟩)] w fun e w'=>e=.returned (.bool ((land x s == x) || (land x s == s)))∧w'=w:=by
 have hc:=y07 h 0;simp only [List.getElem?_toArray,List.getElem?_cons_zero] at hc;clear h;cases hq:(land x s == x)
 all_goals
  have HQ:=As0.mk hq;go_enter Tra.func74,Tra.ntmps74
  go_wp2
  go_ret
  exact ⟨rfl,rfl⟩
theorem c27 (x s d:Int) (b:Nat) (w:World) (h:w.heap[b]?=some (.cells #[.int .i64 s,.int .i64 d] 102 (0,0))) :
  Calls Tra.prog 89 #[.int .i64 x,.pointer (some ⟨b,0,none⟩)] w fun e w'=>e=.returned (.bool (yby x s == 0))∧w'=w:=by
 have hc:=y07 h 0;have hu38:=Tra.underlying102;simp only [List.getElem?_toArray,List.getElem?_cons_zero] at hc;clear h;go_enter Tra.func89,Tra.ntmps89
 go_wp2
 go_ret
 exact ⟨rfl,rfl⟩
theorem c28 (x m:Int) (hm:0≤m∧m≤9) (b:Nat) (w:World) (h:w.heap[b]?=some (.cells #[.int .i64 m] 3 (0,0))) :
  Calls Tra.prog 96 #[.int .i64 x,.pointer (some ⟨b,0,none⟩)] w fun e w'=>e=.returned (.bool (decide (x<1) || decide (wrap64 (2 ^ m.toNat)≤x)))∧w'=w:=by
 have hc:=y07 h 0;simp only [List.getElem?_toArray,List.getElem?_cons_zero] at hc;obtain ⟨h0,h9⟩:=hm;clear h;cases hq:decide (x<1)
 all_goals
  have HQ:=As0.mk hq;go_enter Tra.func96,Tra.ntmps96
  go_wp2
  go_ret
  exact ⟨rfl,rfl⟩
theorem yir (p:Int->Bool) (b:Nat) (A:Option Addr) (c:Nat) (l:List Int) (w:World) (hr:Kd.C (Kd.int .i64) w A l.length l) (hc:l.length≤c)
  (hp:∀ x ∈ l,Calls Tra.prog 74 #[.int .i64 x,.pointer (some ⟨b,0,none⟩)] w fun e W'=>e=.returned (.bool (p x))∧W'=w) :
  Calls Tra.prog 35 #[.slice A l.length c,.func (.func 74) #[] #[.pointer (some ⟨b,0,none⟩)]] w fun e w'=>(∃ i:Int,e=.returned (.int .i64 i)∧decide (0≤i)=l.any p)∧w'=w:=by
 have HR:=As0.mk hr;have HP:=As0.mk hp;have hlen:=hr.2.1;clear hr hp;go_enter Tra.func35,Tra.ntmps35
 go_wp2_with fail
 go_loopw [5,8] (fun v5 v8 W=>∃ (i:Nat),v8=.int .i64 i∧As0 (i≤l.length)∧As0 ((l.take i).any p=false)∧W=w) (fun _ v8 _=>((l.length:Int) - intOf v8).toNat)
 case atStart=>exact ⟨0,rfl,⟨Nat.zero_le _⟩,⟨rfl⟩,rfl⟩
 case round =>
  obtain ⟨i,rfl,hi,HN,rfl⟩:=hrel;have hi':=hi.out
  by_cases hlt:i<l.length
  ·obtain ⟨ad,hA,hcell⟩:=Kd.at_int HR.out (i:Int) (by omega) (by omega)
   subst hA;have hcell':wr.cell? (ad.add i)=some (.int .i64 (rd l i)):=by simpa using hcell
   have hmem:rd l i ∈ l:=by
    unfold rd;rw [List.getD_eq_getElem?_getD,Int.toNat_natCast,List.getElem?_eq_getElem hlt];exact List.getElem_mem hlt
   have htake:l.take (i+1)=l.take i ++ [rd l i]:=by
    rw [List.take_add_one,List.getElem?_eq_getElem hlt];unfold rd;rw [List.getD_eq_getElem?_getD,Int.toNat_natCast,List.getElem?_eq_getElem hlt];rfl
   have HT:=As0.mk htake;have hlti:(i:Int)<(l.length:Int):=by omega
   have h0i:(0:Int)≤(i:Int):=by omega
   have HC:=As0.mk (HP.out _ hmem);clear hmem htake hcell;obtain ⟨x,hx⟩:∃ x,rd l i=x:=⟨_,rfl⟩
   rw [hx] at HC HT hcell';clear hx;cases hq:p x with
   |false =>
    rw [hq] at HC;have HQ:=As0.mk hq;clear hq;go_wp2_with fail
    refine HC.out.mono ?_
    rintro e w1 ⟨rfl,rfl⟩
    go_wp2
    go_roundw
    case rel=>exact ⟨i+1,by go_num,⟨by omega⟩,⟨by rw [HT.out,List.any_append,HN.out];simp [HQ.out]⟩,by first|rfl|trivial⟩
    case measure=>simp [intOf];omega
   |true =>
    rw [hq] at HC;have HQ:=As0.mk hq;clear hq;go_wp2_with fail
    refine HC.out.mono ?_
    rintro e w1 ⟨rfl,rfl⟩
    go_wp2
    go_ret
    refine ⟨⟨(i:Int),rfl,?_⟩,rfl⟩;have h2:l.any p=true:=by
     rw [← List.take_append_drop (i+1) l,List.any_append,HT.out,List.any_append];simp [HQ.out]
    rw [h2];exact zDt h0i
  ·have hie:i=l.length:=by omega
   have hlti:¬ (i:Int)<(l.length:Int):=by omega
   go_wp2
   go_ret
   refine ⟨⟨-1,rfl,?_⟩,rfl⟩;have h2:=HN.out;rw [hie,List.take_length] at h2;rw [h2];rfl
theorem yc7 (p:Int->Bool) (b:Nat) (A:Option Addr) (c:Nat) (l:List Int) (w:World) (hr:Kd.C (Kd.int .i64) w A l.length l) (hc:l.length≤c)
  (hp:∀ x ∈ l,Calls Tra.prog 74 #[.int .i64 x,.pointer (some ⟨b,0,none⟩)] w fun e W'=>e=.returned (.bool (p x))∧W'=w) :
  Calls Tra.prog 17 #[.slice A l.length c,.func (.func 74) #[] #[.pointer (some ⟨b,0,none⟩)]] w fun e w'=>e=.returned (.bool (l.any p))∧w'=w:=by
 have HI:=As0.mk (yir p b A c l w hr hc hp);clear hr hc hp;go_enter Tra.func17,Tra.ntmps17
 go_wp2_with fail
 refine HI.out.mono ?_
 rintro e w1 ⟨⟨i,rfl,hi⟩,rfl⟩
 go_wp2
 go_ret
 exact ⟨by rw [← hi];rfl,rfl⟩
theorem yiq (p:Int->Bool) (b:Nat) (A:Option Addr) (c:Nat) (l:List Int) (w:World) (hr:Kd.C (Kd.int .i64) w A l.length l) (hc:l.length≤c)
  (hp:∀ x ∈ l,Calls Tra.prog 76 #[.int .i64 x,.pointer (some ⟨b,0,none⟩)] w fun e W'=>e=.returned (.bool (p x))∧W'=w) :
  Calls Tra.prog 35 #[.slice A l.length c,.func (.func 76) #[] #[.pointer (some ⟨b,0,none⟩)]] w fun e w'=>(∃ i:Int,e=.returned (.int .i64 i)∧decide (0≤i)=l.any p)∧w'=w:=by
 have HR:=As0.mk hr;have HP:=As0.mk hp;have hlen:=hr.2.1;clear hr hp;go_enter Tra.func35,Tra.ntmps35
 go_wp2_with fail
 go_loopw [5,8] (fun v5 v8 W=>∃ (i:Nat),v8=.int .i64 i∧As0 (i≤l.length)∧As0 ((l.take i).any p=false)∧W=w) (fun _ v8 _=>((l.length:Int) - intOf v8).toNat)
 case atStart=>exact ⟨0,rfl,⟨Nat.zero_le _⟩,⟨rfl⟩,rfl⟩
 case round =>
  obtain ⟨i,rfl,hi,HN,rfl⟩:=hrel;have hi':=hi.out
  by_cases hlt:i<l.length
  ·obtain ⟨ad,hA,hcell⟩:=Kd.at_int HR.out (i:Int) (by omega) (by omega)
   subst hA;have hcell':wr.cell? (ad.add i)=some (.int .i64 (rd l i)):=by simpa using hcell
   have hmem:rd l i ∈ l:=by
    unfold rd;rw [List.getD_eq_getElem?_getD,Int.toNat_natCast,List.getElem?_eq_getElem hlt];exact List.getElem_mem hlt
   have htake:l.take (i+1)=l.take i ++ [rd l i]:=by
    rw [List.take_add_one,List.getElem?_eq_getElem hlt];unfold rd;rw [List.getD_eq_getElem?_getD,Int.toNat_natCast,List.getElem?_eq_getElem hlt];rfl
   have HT:=As0.mk htake;have hlti:(i:Int)<(l.length:Int):=by omega
   have h0i:(0:Int)≤(i:Int):=by omega
   have HC:=As0.mk (HP.out _ hmem);clear hmem htake hcell;obtain ⟨x,hx⟩:∃ x,rd l i=x:=⟨_,rfl⟩
   rw [hx] at HC HT hcell';clear hx;cases hq:p x with
   |false =>
    rw [hq] at HC;have HQ:=As0.mk hq;clear hq;go_wp2_with fail
    refine HC.out.mono ?_
    rintro e w1 ⟨rfl,rfl⟩
    go_wp2
    go_roundw
    case rel=>exact ⟨i+1,by go_num,⟨by omega⟩,⟨by rw [HT.out,List.any_append,HN.out];simp [HQ.out]⟩,by first|rfl|trivial⟩
    case measure=>simp [intOf];omega
   |true =>
    rw [hq] at HC;have HQ:=As0.mk hq;clear hq;go_wp2_with fail
    refine HC.out.mono ?_
    rintro e w1 ⟨rfl,rfl⟩
    go_wp2
    go_ret
    refine ⟨⟨(i:Int),rfl,?_⟩,rfl⟩;have h2:l.any p=true:=by
     rw [← List.take_append_drop (i+1) l,List.any_append,HT.out,List.any_append];simp [HQ.out]
    rw [h2];exact zDt h0i
  ·have hie:i=l.length:=by omega
   have hlti:¬ (i:Int)<(l.length:Int):=by omega
   go_wp2
   go_ret
   refine ⟨⟨-1,rfl,?_⟩,rfl⟩;have h2:=HN.out;rw [hie,List.take_length] at h2;rw [h2];rfl
theorem yc6 (p:Int->Bool) (b:Nat) (A:Option Addr) (c:Nat) (l:List Int) (w:World) (hr:Kd.C (Kd.int .i64) w A l.length l) (hc:l.length≤c)
  (hp:∀ x ∈ l,Calls Tra.prog 76 #[.int .i64 x,.pointer (some ⟨b,0,none⟩)] w fun e W'=>e=.returned (.bool (p x))∧W'=w) :
  Calls Tra.prog 17 #[.slice A l.length c,.func (.func 76) #[] #[.pointer (some ⟨b,0,none⟩)]] w fun e w'=>e=.returned (.bool (l.any p))∧w'=w:=by
 have HI:=As0.mk (yiq p b A c l w hr hc hp);clear hr hc hp;go_enter Tra.func17,Tra.ntmps17
 go_wp2_with fail
 refine HI.out.mono ?_
 rintro e w1 ⟨⟨i,rfl,hi⟩,rfl⟩
 go_wp2
 go_ret
 exact ⟨by rw [← hi];rfl,rfl⟩
theorem yip (p:Int->Bool) (b:Nat) (A:Option Addr) (c:Nat) (l:List Int) (w:World) (hr:Kd.C (Kd.int .i64) w A l.length l) (hc:l.length≤c)
  (hp:∀ x ∈ l,Calls Tra.prog 89 #[.int .i64 x,.pointer (some ⟨b,0,none⟩)] w fun e W'=>e=.returned (.bool (p x))∧W'=w) :
  Calls Tra.prog 35 #[.slice A l.length c,.func (.func 89) #[] #[.pointer (some ⟨b,0,none⟩)]] w fun e w'=>(∃ i:Int,e=.returned (.int .i64 i)∧decide (0≤i)=l.any p)∧w'=w:=by
 have HR:=As0.mk hr;have HP:=As0.mk hp;have hlen:=hr.2.1;clear hr hp;go_enter Tra.func35,Tra.ntmps35
 go_wp2_with fail
 go_loopw [5,8] (fun v5 v8 W=>∃ (i:Nat),v8=.int .i64 i∧As0 (i≤l.length)∧As0 ((l.take i).any p=false)∧W=w) (fun _ v8 _=>((l.length:Int) - intOf v8).toNat)
 case atStart=>exact ⟨0,rfl,⟨Nat.zero_le _⟩,⟨rfl⟩,rfl⟩
 case round =>
  obtain ⟨i,rfl,hi,HN,rfl⟩:=hrel;have hi':=hi.out
  by_cases hlt:i<l.length
  ·obtain ⟨ad,hA,hcell⟩:=Kd.at_int HR.out (i:Int) (by omega) (by omega)
   subst hA;have hcell':wr.cell? (ad.add i)=some (.int .i64 (rd l i)):=by simpa using hcell
   have hmem:rd l i ∈ l:=by
    unfold rd;rw [List.getD_eq_getElem?_getD,Int.toNat_natCast,List.getElem?_eq_getElem hlt];exact List.getElem_mem hlt
   have htake:l.take (i+1)=l.take i ++ [rd l i]:=by
    rw [List.take_add_one,List.getElem?_eq_getElem hlt];unfold rd;rw [List.getD_eq_getElem?_getD,Int.toNat_natCast,List.getElem?_eq_getElem hlt];rfl
   have HT:=As0.mk htake;have hlti:(i:Int)<(l.length:Int):=by omega
   have h0i:(0:Int)≤(i:Int):=by omega
   have HC:=As0.mk (HP.out _ hmem);clear hmem htake hcell;obtain ⟨x,hx⟩:∃ x,rd l i=x:=⟨_,rfl⟩
   rw [hx] at HC HT hcell';clear hx;cases hq:p x with
   |false =>
    rw [hq] at HC;have HQ:=As0.mk hq;clear hq;go_wp2_with fail
    refine HC.out.mono ?_
    rintro e w1 ⟨rfl,rfl⟩
    go_wp2
    go_roundw
    case rel=>exact ⟨i+1,by go_num,⟨by omega⟩,⟨by rw [HT.out,List.any_append,HN.out];simp [HQ.out]⟩,by first|rfl|trivial⟩
    case measure=>simp [intOf];omega
   |true =>
    rw [hq] at HC;have HQ:=As0.mk hq;clear hq;go_wp2_with fail
    refine HC.out.mono ?_
    rintro e w1 ⟨rfl,rfl⟩
    go_wp2
    go_ret
    refine ⟨⟨(i:Int),rfl,?_⟩,rfl⟩;have h2:l.any p=true:=by
     rw [← List.take_append_drop (i+1) l,List.any_append,HT.out,List.any_append];simp [HQ.out]
    rw [h2];exact zDt h0i
  ·have hie:i=l.length:=by omega
   have hlti:¬ (i:Int)<(l.length:Int):=by omega
   go_wp2
   go_ret
   refine ⟨⟨-1,rfl,?_⟩,rfl⟩;have h2:=HN.out;rw [hie,List.take_length] at h2;rw [h2];rfl
theorem yc5 (p:Int->Bool) (b:Nat) (A:Option Addr) (c:Nat) (l:List Int) (w:World) (hr:Kd.C (Kd.int .i64) w A l.length l) (hc:l.length≤c)
  (hp:∀ x ∈ l,Calls Tra.prog 89 #[.int .i64 x,.pointer (some ⟨b,0,none⟩)] w fun e W'=>e=.returned (.bool (p x))∧W'=w) :
  Calls Tra.prog 17 #[.slice A l.length c,.func (.func 89) #[] #[.pointer (some ⟨b,0,none⟩)]] w fun e w'=>e=.returned (.bool (l.any p))∧w'=w:=by
 have HI:=As0.mk (yip p b A c l w hr hc hp);clear hr hc hp;go_enter Tra.func17,Tra.ntmps17
 go_wp2_with fail
 refine HI.out.mono ?_
 rintro e w1 ⟨⟨i,rfl,hi⟩,rfl⟩
 go_wp2
 go_ret
 exact ⟨by rw [← hi];rfl,rfl⟩
theorem yio (p:Int->Bool) (b:Nat) (A:Option Addr) (c:Nat) (l:List Int) (w:World) (hr:Kd.C (Kd.int .i64) w A l.length l) (hc:l.length≤c)
  (hp:∀ x ∈ l,Calls Tra.prog 96 #[.int .i64 x,.pointer (some ⟨b,0,none⟩)] w fun e W'=>e=.returned (.bool (p x))∧W'=w) :
  Calls Tra.prog 35 #[.slice A l.length c,.func (.func 96) #[] #[.pointer (some ⟨b,0,none⟩)]] w fun e w'=>(∃ i:Int,e=.returned (.int .i64 i)∧decide (0≤i)=l.any p)∧w'=w:=by
 have HR:=As0.mk hr;have HP:=As0.mk hp;have hlen:=hr.2.1;clear hr hp;go_enter Tra.func35,Tra.ntmps35
 go_wp2_with fail
 go_loopw [5,8] (fun v5 v8 W=>∃ (i:Nat),v8=.int .i64 i∧As0 (i≤l.length)∧As0 ((l.take i).any p=false)∧W=w) (fun _ v8 _=>((l.length:Int) - intOf v8).toNat)
 case atStart=>exact ⟨0,rfl,⟨Nat.zero_le _⟩,⟨rfl⟩,rfl⟩
 case round =>
  obtain ⟨i,rfl,hi,HN,rfl⟩:=hrel;have hi':=hi.out
  by_cases hlt:i<l.length
  ·obtain ⟨ad,hA,hcell⟩:=Kd.at_int HR.out (i:Int) (by omega) (by omega)
   subst hA;have hcell':wr.cell? (ad.add i)=some (.int .i64 (rd l i)):=by simpa using hcell
   have hmem:rd l i ∈ l:=by
    unfold rd;rw [List.getD_eq_getElem?_getD,Int.toNat_natCast,List.getElem?_eq_getElem hlt];exact List.getElem_mem hlt
   have htake:l.take (i+1)=l.take i ++ [rd l i]:=by
    rw [List.take_add_one,List.getElem?_eq_getElem hlt];unfold rd;rw [List.getD_eq_getElem?_getD,Int.toNat_natCast,List.getElem?_eq_getElem hlt];rfl
   have HT:=As0.mk htake;have hlti:(i:Int)<(l.length:Int):=by omega
   have h0i:(0:Int)≤(i:Int):=by omega
   have HC:=As0.mk (HP.out _ hmem);clear hmem htake hcell;obtain ⟨x,hx⟩:∃ x,rd l i=x:=⟨_,rfl⟩
   rw [hx] at HC HT hcell';clear hx;cases hq:p x with
   |false =>
    rw [hq] at HC;have HQ:=As0.mk hq;clear hq;go_wp2_with fail
    refine HC.out.mono ?_
    rintro e w1 ⟨rfl,rfl⟩
    go_wp2
    go_roundw
    case rel=>exact ⟨i+1,by go_num,⟨by omega⟩,⟨by rw [HT.out,List.any_append,HN.out];simp [HQ.out]⟩,by first|rfl|trivial⟩
    case measure=>simp [intOf];omega
   |true =>
    rw [hq] at HC;have HQ:=As0.mk hq;clear hq;go_wp2_with fail
    refine HC.out.mono ?_
    rintro e w1 ⟨rfl,rfl⟩
    go_wp2
    go_ret
    refine ⟨⟨(i:Int),rfl,?_⟩,rfl⟩;have h2:l.any p=true:=by
     rw [← List.take_append_drop (i+1) l,List.any_append,HT.out,List.any_append];simp [HQ.out]
    rw [h2];exact zDt h0i
  ·have hie:i=l.length:=by omega
   have hlti:¬ (i:Int)<(l.length:Int):=by omega
   go_wp2
   go_ret
   refine ⟨⟨-1,rfl,?_⟩,rfl⟩;have h2:=HN.out;rw [hie,List.take_length] at h2;rw [h2];rfl
theorem yc4 (p:Int->Bool) (b:Nat) (A:Option Addr) (c:Nat) (l:List Int) (w:World) (hr:Kd.C (Kd.int .i64) w A l.length l) (hc:l.length≤c)
  (hp:∀ x ∈ l,Calls Tra.prog 96 #[.int .i64 x,.pointer (some ⟨b,0,none⟩)] w fun e W'=>e=.returned (.bool (p x))∧W'=w) :
  Calls Tra.prog 17 #[.slice A l.length c,.func (.func 96) #[] #[.pointer (some ⟨b,0,none⟩)]] w fun e w'=>e=.returned (.bool (l.any p))∧w'=w:=by
 have HI:=As0.mk (yio p b A c l w hr hc hp);clear hr hc hp;go_enter Tra.func17,Tra.ntmps17
 go_wp2_with fail
 refine HI.out.mono ?_
 rintro e w1 ⟨⟨i,rfl,hi⟩,rfl⟩
 go_wp2
 go_ret
 exact ⟨by rw [← hi];rfl,rfl⟩
end
section
attribute [local go_sem] y0x y0v y16 y15 y0q y0p y0w y0u
abbrev pw (n:Int):Int:=wrap64 (2 ^ n.toNat)
theorem c18 (s:Int) (b:Nat) (A:Option Addr) (c:Nat) (l:List Int) (w:World) (hr:Kd.C (Kd.int .i64) w A l.length l) (hc:l.length≤c) (h:w.heap[b]?=some (.cells #[.slice A l.length c] 29 (0,0))) :
  Calls Tra.prog 75 #[.int .i64 s,.pointer (some ⟨b,0,none⟩)] w fun e w'=>e=.returned (.bool (l.any fun x=>land x s == x))∧Below w.heap.size w w':=by
 have hb:=y01 (Below.refl w.heap.size w) (.cells #[.int .i64 s] 3);have hcell:=y07 (y0r h hb) 0;simp only [List.getElem?_toArray,List.getElem?_cons_zero] at hcell;have hs:=heap_alloc_new w (.cells #[.int .i64 s] 3);have HC:=As0.mk (yc6 (fun x=>land x s == x) w.heap.size A c l (w.alloc (.cells #[.int .i64 s] 3)) (Kd.C_below hr hb) hc (fun x hx=>c19 x s w.heap.size _ hs));have HB:=As0.mk hb;clear hs hb h hr;go_enter Tra.func75,Tra.ntmps75
 go_wp2_with (first|(go_at_call 17;with_reducible refine HC.out.mono ?_;rintro e w1 ⟨rfl,rfl⟩)|fail)
 go_ret
 exact ⟨rfl,HB.out⟩
theorem ybb (A:Option Addr) (c:Nat) (l:List Int) (w:World) :
  Calls Tra.prog 61 #[.slice A l.length c] w fun e w'=>e=.returned (.func (.func 75) #[] #[.pointer (some ⟨w.heap.size,0,none⟩)])∧w'=w.alloc (.cells #[.slice A l.length c] 29):=by
 have hmf:∀ (fn:Fn) (first cap:Array Value) (w:World),(Instr.makeFunc fn first cap).run Tra.prog w=.ok (.func fn first cap) w:=fun _ _ _ _=>rfl
 go_enter Tra.func61,Tra.ntmps61
 go_wp2
 go_ret
 exact ⟨rfl,rfl⟩
def win (l:List Int) (s:Int):Bool:=l.any fun x=>land x s == x
end
section
attribute [local go_sem] y0x y0v y16 y15 y0q y0p y0w y0u
structure yhj (n:Int) (l:List Int):Prop where
 n1:1≤n
 n5:n≤5
 ne:l≠[]
 lo:∀ i:Nat,i<l.length->1≤rd l i
 hi:∀ i:Nat,i<l.length->rd l i<pw n
 up:∀ i:Nat,i<l.length->0<i->rd l ((i:Int) - 1)<rd l i
 apart:∀ i:Nat,i<l.length->(l.take i).any (fun x=>(land x (rd l i) == x) || (land x (rd l i) == rd l i))=false
theorem cell_rd {w:World} {A:Option Addr} {l:List Int} (h:Kd.C (Kd.int .i64) w A l.length l) {i:Nat} (hi:i<l.length):∃ ad,A=some ad∧w.cell? (ad.add i)=some (.int .i64 (rd l i)):=by
 obtain ⟨ad,hA,hc⟩:=Kd.at_int h (i:Int) (by omega) (by omega);exact ⟨ad,hA,by simpa using hc⟩
theorem ybc (n:Int) (A:Option Addr) (c:Nat) (l:List Int) (w:World) (hr:Kd.C (Kd.int .i64) w A l.length l) (hc:l.length≤c) (hR:yhj n l) :
  Calls Tra.prog 60 #[.int .i64 n,.slice A l.length c] w fun e w'=>e=.returned (.bool true)∧Below w.heap.size w w':=by
 have hn1:=hR.n1;have hn5:=hR.n5;have hlen:(l.length:Int)≠0:=by
  intro h;exact hR.ne (List.eq_nil_of_length_eq_zero (by omega))
 have hl0:((l.length:Int) == 0)=false:=by rw [beq_eq_false_iff_ne];exact hlen
 have hmf:∀ (fn:Fn) (first cap:Array Value) (w:World),(Instr.makeFunc fn first cap).run Tra.prog w=.ok (.func fn first cap) w:=fun _ _ _ _=>rfl
 have HR:=As0.mk hR;have HC:=As0.mk hr;have hmax:=hr.2.1;clear hr hR;go_enter Tra.func60,Tra.ntmps60
 go_wp2_with fail
 go_loopw [20] (fun v20 W=>∃ (i:Nat),v20=.int .i64 i∧As0 (i≤l.length)∧As0 (Below w.heap.size w W)) (fun v20 _=>((l.length:Int) - intOf v20).toNat)
 case atStart=>exact ⟨0,rfl,⟨Nat.zero_le _⟩,⟨Below.refl _ _⟩⟩
 case round =>
  obtain ⟨i,rfl,hi,HB⟩:=hrel;have hi':=hi.out
  by_cases hlt:i<l.length
  ·have hC:=Kd.C_below HC.out HB.out
   obtain ⟨ad,hA,hcell⟩:=cell_rd hC hlt;subst hA;have hlo:=HR.out.lo i hlt;have hhi:=HR.out.hi i hlt;have hap:=HR.out.apart i hlt;have hup:=HR.out.up i hlt;obtain ⟨s,hs⟩:∃ s,rd l i=s:=⟨_,rfl⟩
   rw [hs] at hcell hlo hhi hap hup;have hB1:=y01 (Below.refl wr.heap.size wr) (.cells #[.int .i64 s] 3);have hbox:=heap_alloc_new wr (.cells #[.int .i64 s] 3);have hbc:=y07 hbox 0;simp only [List.getElem?_toArray,List.getElem?_cons_zero] at hbc;have htl:(l.take i).length=i:=by rw [List.length_take];omega
   have HK:=fun nd:Nat=>yc7 (fun x=>(land x s == x) || (land x s == s)) wr.heap.size (some ad) c (l.take i) ((wr.alloc (.cells #[.int .i64 s] 3)).drewN nd) (Kd.C_take (Kd.C_drewN (Kd.C_below hC hB1) nd) (by omega)) (by omega) (fun x hx=>c17 x s wr.heap.size _ hbox)
   rw [hap,htl] at HK;have HK:=As0.mk HK;have hlti:(i:Int)<(l.length:Int):=by omega
   have h0i:(0:Int)≤(i:Int):=by omega
   have HB1:=As0.mk (y04 HB.out hB1);have HC1:=As0.mk (Kd.C_below hC hB1);have hd1:decide (s<1)=false:=zDf (by omega);have hd2:decide (wrap64 (2 ^ n.toNat)≤s)=false:=zDf (Int.not_le.2 hhi);have hd2':decide (IntKind.i64.wrap (2 ^ n.toNat)≤s)=false:=by rw [y0a];exact hd2
   clear hC hbox hB1 hap hs
   by_cases hz:i=0
   ·have hz1:¬ (0:Int)<(i:Int):=by omega
    have hd3:decide ((0:Int)<(i:Int))=false:=zDf hz1;have hd3':decide (0<i)=false:=zDf (by omega);clear hup hz;go_wp2_with fail
    go_quiet (first|(go_at_call 17;(first|refine (HK.out _).mono ?_|refine (HK.out 0).mono ?_);rintro e w5 ⟨rfl,rfl⟩;(try first|exact ⟨rfl,_,World.drewN_drewN _ _ _⟩|exact ⟨rfl,_,rfl⟩)))
    go_wp2_with fail
    go_roundw
    case rel=>exact ⟨i+1,by go_num,⟨by omega⟩,⟨y04 HB1.out (y00 (Below.refl _ _) _)⟩⟩
    case measure=>simp [intOf];omega
   ·have hz1:(0:Int)<(i:Int):=by omega
    have hup:=hup (by omega);obtain ⟨j,hj⟩:∃ j:Int,(i:Int) - 1=j:=⟨_,rfl⟩
    rw [hj] at hup;obtain ⟨ad2,hA2,hcell2⟩:=Kd.at_int HC1.out j (by omega) (by omega);obtain rfl:ad=ad2:=by injection hA2
    have hwi:IntKind.i64.wrap ((i:Int) - 1)=j:=by rw [hj];exact IntWalk.i64_in _ (by omega)
    have hp0:=eq_true (show (0:Int)≤j by omega);have hp1:=eq_true (show j<(l.length:Int) by omega);clear hj;have hd3:decide ((0:Int)<(i:Int))=true:=zDt hz1;have hd3':decide (0<i)=true:=zDt (by omega);have hd4:decide (s≤rd l j)=false:=zDf (by omega);go_wp2_with fail
    go_quiet (first|(go_at_call 17;(first|refine (HK.out _).mono ?_|refine (HK.out 0).mono ?_);rintro e w5 ⟨rfl,rfl⟩;(try first|exact ⟨rfl,_,World.drewN_drewN _ _ _⟩|exact ⟨rfl,_,rfl⟩)))
    go_wp2_with fail
    go_roundw
    case rel=>exact ⟨i+1,by go_num,⟨by omega⟩,⟨y04 HB1.out (y00 (Below.refl _ _) _)⟩⟩
    case measure=>simp [intOf];omega
  ·have hie:i=l.length:=by omega
   have hlti:¬ (i:Int)<(l.length:Int):=by omega
   go_wp2
   go_ret
   exact ⟨rfl,HB.out⟩
end
section
attribute [local go_sem] y0x y0v y16 y15 y0q y0p y0w y0u
theorem info3:(Tra.prog.info? 3).map (fun i=>(i.zero,i.size,i.bytes))=some (some (.int .i64 0),1,8):=by kernel_rfl
end
section
attribute [local go_sem] y0x y0v y16 y15 y0q y0p y0w y0u
theorem y3o {w:World} (o:Obj) {n:Nat} (h:w.heap.size=n):(w.alloc o).heap[n]?=some o:=h ▸ heap_alloc_new w o
theorem asize (w:World) (o:Obj):(w.alloc o).heap.size=w.heap.size+1:=by show (w.heap.push o).size=_;simp
theorem y9x (n s:Int) (A:Option Addr) (c:Nat) (l:List Int) (w:World) (hr:Kd.C (Kd.int .i64) w A l.length l) (hc:l.length≤c) (hR:yhj n l) (h0:0≤s) (h1:s<pw n) :
  Calls Tra.prog 33 #[.int .i64 n,.slice A l.length c,.int .i64 s] w fun e w'=>e=.returned (.tuple #[.bool (win l s),.int .i64 0])∧Below w.heap.size w w':=by
 have HR:=As0.mk (ybc n A c l w hr hc hR);have HC:=As0.mk hr;have hn1:=hR.n1;have hn5:=hR.n5;have hd1:decide (s<0)=false:=zDf (by omega);have hd2:decide (wrap64 (2 ^ n.toNat)≤s)=false:=zDf (Int.not_le.2 h1);clear hr hR h1;go_enter Tra.func33,Tra.ntmps33
 go_wp2_with fail
 refine HR.out.mono ?_
 rintro e w1 ⟨rfl,hb1⟩
 have HB1:=As0.mk hb1;clear hb1 HR;go_wp2_with fail
 refine (ybb A c l w1).mono ?_
 rintro e w2 ⟨rfl,rfl⟩
 have HB2:=As0.mk (y01 HB1.out (.cells #[.slice A l.length c] 29));have HW:=As0.mk (c18 s w1.heap.size A c l (w1.alloc (.cells #[.slice A l.length c] 29)) (Kd.C_below HC.out HB2.out) hc (heap_alloc_new w1 _));go_wp2_with (first|(go_at_call 75;with_reducible refine HW.out.mono ?_;rintro e w5 ⟨rfl,hb5⟩;have HB5:=As0.mk (y04 HB2.out hb5);clear hb5)|fail)
 go_ret2
 exact ⟨rfl,HB5.out⟩
def wonL (l:List Int) (s:Int):Bool:=l.any fun x=>yby x s == 0
theorem y9e (m s d:Int) (A:Option Addr) (c:Nat) (l:List Int) (w:World) (hr:Kd.C (Kd.int .i64) w A l.length l) (hc:l.length≤c) :
  Calls Tra.prog 70 #[.agg #[.int .i64 m,.slice A l.length c],.agg #[.int .i64 s,.int .i64 d]] w fun e w'=>e=.returned (.bool (wonL l s))∧Below w.heap.size w w':=by
 have hmf:∀ (fn:Fn) (first cap:Array Value) (w:World),(Instr.makeFunc fn first cap).run Tra.prog w=.ok (.func fn first cap) w:=fun _ _ _ _=>rfl
 have hu36:=Tra.underlying100;have hu38:=Tra.underlying102;have hB:=y01 (y01 (Below.refl w.heap.size w) (.cells #[.int .i64 m,.slice A l.length c] 100)) (.cells #[.int .i64 s,.int .i64 d] 102);have HB:=As0.mk hB;have hp:((w.alloc (.cells #[.int .i64 m,.slice A l.length c] 100)).alloc (.cells #[.int .i64 s,.int .i64 d] 102)).heap[w.heap.size+1]?=some (.cells #[.int .i64 s,.int .i64 d] 102 (0,0)):=y3o _ (asize _ _);have hf:((w.alloc (.cells #[.int .i64 m,.slice A l.length c] 100)).alloc (.cells #[.int .i64 s,.int .i64 d] 102)).heap[w.heap.size]?=some (.cells #[.int .i64 m,.slice A l.length c] 100 (0,0)):=y0d (heap_alloc_new w (.cells #[.int .i64 m,.slice A l.length c] 100)) _;have hc1:=y07 hf 1;simp only [List.getElem?_toArray,List.getElem?_cons_zero,List.getElem?_cons_succ] at hc1;have HC:=As0.mk (yc5 (fun x=>yby x s == 0) (w.heap.size+1) A c l _ (Kd.C_below hr hB) hc (fun x hx=>c27 x s d (w.heap.size+1) _ hp));clear hp hf hB hr;go_enter Tra.func70,Tra.ntmps70
 go_wp2_with (first|(go_at_call 17;with_reducible refine HC.out.mono ?_;rintro e w5 ⟨rfl,rfl⟩)|fail)
 go_ret
 exact ⟨rfl,HB.out⟩
end
end Go.Proofs.Ytfgcijifdbgpaaa.Tb
namespace Go.Proofs.Ytfgcijifdbgpaaa.Ext
open Go.RowKit Go.Proofs.YtfgcijifdbgpaaaW.Wd Go.Proofs.YtfgcijifdbgpaaaW.La Go.Proofs.YtfgcijifdbgpaaaW.Mo
section
variable {P:Program} {α:Type} [DecidableEq α] {D:KeyD P α}
def Metm (D:KeyD P α) (w:World) (g:Nat) (S:List α):Prop :=
 S.Nodup∧(∀ x ∈ S,D.ok x)∧∃ (es:Array MapEntry) (clock:Nat),w.heap[g]?=some (.map es clock)∧es.size=S.length∧∀ (i:Nat) (e:MapEntry),es.toList[i]?=some e->∃ x,S[i]?=some x∧e.key=D.enc x∧e.val=.bool true
theorem Metm.made (D:KeyD P α) (w:World):Metm D (w.alloc (.map #[] 0)) w.heap.size []:=⟨List.nodup_nil,by simp,#[],0,heap_alloc_new _ _,rfl,by simp⟩
theorem Metm.lt {w:World} {g:Nat} {S:List α} (h:Metm D w g S):g<w.heap.size:=by
 obtain ⟨_,_,es,clock,hb,_⟩:=h;exact y1i hb
theorem Metm.move {w w1:World} {g:Nat} {S:List α} (h:Metm D w g S) (hm:w1.heap[g]?=w.heap[g]?):Metm D w1 g S:=by
 obtain ⟨h1,h2,es,clock,hb,r⟩:=h;exact ⟨h1,h2,es,clock,hm.trans hb,r⟩
theorem Metm.keys {S:List α} (hok:∀ x ∈ S,D.ok x) {es:Array MapEntry} (r:∀ (i:Nat) (e:MapEntry),es.toList[i]?=some e->∃ x,S[i]?=some x∧e.key=D.enc x∧e.val=.bool true):∀ e ∈ es.toList,∃ l,keyOf P D.kt e.key=some l:=by
 intro e he;obtain ⟨i,hi⟩:=List.mem_iff_getElem?.1 he;obtain ⟨x,hx,hk,_⟩:=r i e hi;rw [hk];exact D.key (hok x (List.mem_of_getElem? hx))
theorem Metm.find {w:World} {g:Nat} {S:List α} (h:Metm D w g S) {x:α} (hx:D.ok x):∃ es clock l,w.heap[g]?=some (.map es clock)∧es.size=S.length∧keyOf P D.kt (D.enc x)=some l ∧
  ((x ∉ S∧(Instr.findKey D.kt (D.enc x) es.toList).run P w=.ok none w)∨(x ∈ S∧∃ j,(Instr.findKey D.kt (D.enc x) es.toList).run P w=.ok (some (j,.bool true)) w)):=by
 obtain ⟨hn,hok,es,clock,hb,hs,r⟩:=h;obtain ⟨l,hl⟩:=D.key hx;refine ⟨es,clock,l,hb,hs,hl,?_⟩;rcases D.keyed.find w hl es.toList (Metm.keys hok r) with ⟨h1,h2⟩|⟨j,e0,h1,h2,h3⟩
 ·refine .inl ⟨fun hin=>?_,h1⟩
  obtain ⟨i,hi⟩:=List.mem_iff_getElem?.1 hin;have hlt:i<es.toList.length:=by
   have:=(List.getElem?_eq_some_iff.1 hi).1;simpa [hs] using this
  obtain ⟨y,hy,hk,_⟩:=r i _ (List.getElem?_eq_getElem hlt);rw [hi] at hy;injection hy with hy
  subst hy;exact h2 _ (List.getElem_mem hlt) hk
 ·obtain ⟨y,hy,hk,hv⟩:=r j e0 h2
  have e:y=x:=D.inj (hk.symm.trans h3);subst e;exact .inr ⟨List.mem_of_getElem? hy,j,by rw [h1,hv]⟩
theorem Metm.absent {w:World} {g:Nat} {S:List α} (h:Metm D w g S) {mt:TypeId} (hmt:P.underlying mt=some (.map D.kt 4)) (hz:(zeroValue 4).run P w=.ok (.bool false) w) {x:α} (hx:D.ok x) (hin:x ∉ S) :
  (Instr.lookup mt (.map (some g)) (D.enc x) false).run P w=.ok (.bool false) w:=by
 obtain ⟨es,clock,l,hb,hs,hl,h⟩:=h.find hx;rcases h with ⟨h1,h2⟩|⟨h1,j,h2⟩
 ·simp [Instr.lookup,run_underlying hmt,MapKept.run_getObj_map hb,D.keyed.check w _ hl,h2,hz,Result.andThen]
 ·exact absurd h1 hin
theorem Metm.update {w:World} {g:Nat} {S:List α} (h:Metm D w g S) {mt:TypeId} (hmt:P.underlying mt=some (.map D.kt 4)) {x:α} (hx:D.ok x) (hin:x ∉ S) :
  ∃ w',(Instr.mapUpdate mt (.map (some g)) (D.enc x) (.bool true)).run P w=.ok () w'∧Metm D w' g (S ++ [x])∧w.grownBy w' (some g):=by
 have hf:=h.find hx;obtain ⟨hn,hok,es,clock,hb,hs,r⟩:=h;obtain ⟨es',clock',l,hb',hs',hl,hf⟩:=hf;rw [hb] at hb';injection hb' with hb'
 injection hb' with e1 e2
 subst e1 e2;rcases hf with ⟨h1,h2⟩|⟨h1,_⟩
 ·have hlt:=y1i hb
  refine ⟨Go.ChangeMaps.setBlock w g (.map (es.push { key:=D.enc x,val:=.bool true,born:=clock }) (clock+1)),?_,⟨?_,?_,_,_,y5u hlt _,?_,?_⟩,y44 _⟩
  ·simp [Instr.mapUpdate,run_underlying hmt,MapKept.run_getObj_map hb,D.keyed.check w _ hl,h2,MapKept.run_setObj_map _ hb,Result.andThen,Go.ChangeMaps.setBlock]
  ·have:=yan hn x
   rwa [met,if_neg hin] at this
  ·intro y hy
   rcases List.mem_append.1 hy with hy|hy
   ·exact hok y hy
   ·rw [List.mem_singleton.1 hy];exact hx
  ·simp [hs]
  ·intro i e he
   have hsl:es.toList.length=S.length:=by simp [hs]
   rw [Array.toList_push] at he;rcases Nat.lt_or_ge i S.length with hi|hi
   ·rw [List.getElem?_append_left (by omega)] at he
    obtain ⟨y,hy,r2⟩:=r i e he;exact ⟨y,by rw [List.getElem?_append_left hi];exact hy,r2⟩
   ·have hi2:i=S.length:=by
     have:=(List.getElem?_eq_some_iff.1 he).1;simp only [List.length_append,List.length_singleton] at this;omega
    subst hi2;rw [← hsl,List.getElem?_concat_length] at he;injection he with he
    subst he;exact ⟨x,by simp,rfl,rfl⟩
 ·exact absurd h1 hin
end
end Go.Proofs.Ytfgcijifdbgpaaa.Ext
namespace Go.Proofs.Ytfgcijifdbgpaaa.Gr
open Go.RowKit Go.Proofs.YtfgcijifdbgpaaaW.Wd Go.Proofs.YtfgcijifdbgpaaaW.La Go.Proofs.YtfgcijifdbgpaaaW.Mo Go.Proofs.Ytfgcijifdbgpaaa.Ext
attribute [local go_sem] y0x y0v y16 y15 y0q y0p y0w y0u
def Reads3 (w:World) (A:Option Addr) (l:List (Int × Int)):Prop :=
 0<l.length->∃ ad,A=some ad∧∀ (j:Nat) p,l[j]?=some p->w.cell? (ad.add (j * 3))=some (.int .i64 p.1)∧w.cell? (ad.add (j * 3+1))=some (.int .i64 p.2)∧w.cell? (ad.add (j * 3+2))=some (.bool false)
theorem Reads3.below {w w1:World} {A:Option Addr} {l:List (Int × Int)} (h:Reads3 w A l) (hb:Below w.heap.size w w1):Reads3 w1 A l:=fun hn=>by
 obtain ⟨ad,e,hc⟩:=h hn;exact ⟨ad,e,fun j p hj=>⟨y1v hb (hc j p hj).1,y1v hb (hc j p hj).2.1,y1v hb (hc j p hj).2.2⟩⟩
structure TiesOK (n:Int) (l:List (Int × Int)):Prop where
 n1:1≤n
 n8:n≤8
 few:l.length≤20
 ok:∀ p ∈ l,0≤p.1∧p.1<p.2∧p.2<n
 nodup:l.Nodup
theorem asize (w:World) (o:Obj):(w.alloc o).heap.size=w.heap.size+1:=by show (w.heap.push o).size=_;simp
theorem yc2 (n:Int) (A:Option Addr) (c:Nat) (l:List (Int × Int)) (w:World) (hr:Reads3 w A l) (hT:TiesOK n l) :
  Calls Tra.prog 14 #[.int .i64 n,.slice A l.length c] w fun e w'=>e=.returned (.tuple #[.agg #[.int .i64 n,.slice A l.length c],.int .i64 0])∧Below w.heap.size w w':=by
 have HR:=As0.mk hr;have HT:=As0.mk hT;have hn1:=hT.n1;have hn8:=hT.n8;have hfew:=hT.few;have hfew':¬ (20:Int)<(l.length:Int):=by omega
 have hfew2:¬ (8:Int)<n:=by omega
 have hn1':¬ n<1:=by omega
 clear hr hT;have hmm:=@run_makeMap Tra.prog;go_enter Tra.func14,Tra.ntmps14
 go_wp2_with fail
 go_loopw [25] (fun v25 W=>∃ k:Nat,v25=.int .i64 k∧As0 (k≤l.length)∧As0 (Metm kPair W (w.heap.size+1) (l.take k))∧As0 (W.heap[w.heap.size]?=some (.cells #[.int .i64 0,.slice none 0 0] 42 (0,0)))∧As0 (Below w.heap.size w W)) (fun v25 _=>(l.length - intOf v25).toNat)
 case atStart=>exact ⟨0,rfl,⟨Nat.zero_le _⟩,⟨(by have:=Metm.made kPair (w.alloc (.cells #[.int .i64 0,.slice none 0 0] 42));rw [asize] at this;exact this)⟩,⟨y0d (heap_alloc_new w _) _⟩,⟨y01 (y01 (Below.refl _ _) _) _⟩⟩
 case round =>
  obtain ⟨k,rfl,hk,hM,hN,hB⟩:=hrel;have hk':=hk.out
  by_cases hlt:k<l.length
  ·obtain ⟨ad,rfl,hcl⟩:=(HR.out.below hB.out) (by omega)
   obtain ⟨hc0,hc1,hc2⟩:=hcl k _ (List.getElem?_eq_getElem hlt);replace hc1:wr.cell? { block:=(ad.add (k * 3)).block,off:=(ad.add (k * 3)).off+1 }=some (.int .i64 l[k].2):=by
    have h:=hc1;rw [← Addr.add_add] at h;generalize ad.add (k * 3)=q at h ⊢;simpa [Addr.add] using h
   replace hc2:wr.cell? { block:=(ad.add (k * 3)).block,off:=(ad.add (k * 3)).off+2 }=some (.bool false):=by
    have h:=hc2;rw [← Addr.add_add] at h;generalize ad.add (k * 3)=q at h ⊢;simpa [Addr.add] using h
   clear hcl;obtain ⟨h0,h1,h2⟩:=HT.out.ok l[k] (List.getElem_mem hlt);have hx1:¬ l[k].1<0:=by omega
   have hx2:¬ l[k].2≤l[k].1:=by omega
   have hx3:¬ n≤l[k].2:=by omega
   obtain ⟨⟨x,y⟩,hxe⟩:∃ x:Int × Int,x=l[k]:=⟨_,rfl⟩
   rw [← hxe] at hc0 hc1 h0 h1 h2 hx1 hx2 hx3;simp only at hc0 hc1 h0 h1 h2 hx1 hx2 hx3;have HXE:=As0.mk hxe;clear hxe;have hb1:=y01 (Below.refl wr.heap.size wr) (.cells #[.int .i64 x,.int .i64 y,.bool false] 28);have hM1:=hM.out.move (hb1.block _ hM.out.lt);have HB1:=As0.mk (y04 hB.out hb1);have hN1:=(hb1.block _ (y1i hN.out)).trans hN.out;have hX:kPair.ok (x,y):=by
    show In64 x∧In64 y;unfold In64;omega
   have hnin:(x,y) ∉ l.take k:=by
    rw [HXE.out];intro hin;obtain ⟨j,hj,he⟩:=List.mem_iff_getElem.1 hin;rw [List.length_take] at hj;rw [List.getElem_take] at he;exact absurd ((List.getElem_inj HT.out.nodup).1 he) (by omega)
   have hl1:=hM1.absent (mt:=73) Tra.underlying73 (Tra.zeroValue4 _) hX hnin;obtain ⟨w2,hu,hM2,hg2⟩:=hM1.update (mt:=73) Tra.underlying73 hX hnin;simp only [kPair,pv] at hl1 hu;have HM2:=As0.mk hM2;have hne:w.heap.size≠w.heap.size+1:=by omega
   have HN2:=As0.mk ((hg2.block w.heap.size (y1i hN1) (by intro e;injection e with e;omega)).trans hN1);have HB2:=As0.mk (HB1.out.grown hg2 HB1.out.size (by intro b hb;injection hb with hb;omega));clear hb1 hM1 hN1 hX hnin hM2 hg2 hne;go_wp2_with fail
   go_roundw
   case rel =>
    refine ⟨k+1,by go_num,⟨by omega⟩,⟨?_⟩,HN2,HB2⟩;rw [List.take_succ_eq_append_getElem hlt,← HXE.out];exact HM2.out
   case measure=>simp [intOf];omega
  ·have hlti:¬ (k:Int)<(l.length:Int):=by omega
   have d0:=y07 hN.out 0;have d1:=y07 hN.out 1;simp only [List.getElem?_toArray,List.getElem?_cons_zero,List.getElem?_cons_succ] at d0 d1;have f0:=y09 hN.out 0;have f1:=y09 hN.out 1;have hu42:=Tra.underlying42;go_wp2_with fail
   have b1:=y0y hN.out 0 (.int .i64 n) rfl;have b2:=y0y b1 1 (.slice A l.length c) rfl;refine bodyPost_ret (y35 (rs:=[.cell 4 42,.tmp 5]) rfl (by simp) (.cell w.heap.size 42 #[.int .i64 n,.slice A l.length c] (0,0) _ rfl b2 Tra.underlying42 rfl (by kernel_rfl) (.tmp .nil))) rfl ?_;exact ⟨rfl,y0j (y0j hB.out (zLe _)) (zLe _)⟩
end Go.Proofs.Ytfgcijifdbgpaaa.Gr
namespace Go.Proofs.Ytfgcijifdbgpaaa.Gr
open Go.RowKit Go.Proofs.YtfgcijifdbgpaaaW.Wd Go.Proofs.YtfgcijifdbgpaaaW.La Go.Proofs.YtfgcijifdbgpaaaW.Mo
section
attribute [local go_sem] y0x y0v y16 y15 y0q y0p y0w y0u
theorem less_f (a b:Int):Q.cmp_Less_int.f a b=some (decide (a<b)):=by simp [Q.cmp_Less_int.f,Q.cmp_isNaN_int.f]
theorem w64s {x:Int} (h:-1000000000≤x∧x≤1000000000):wrap64 x=x:=by unfold wrap64;omega
theorem rd_at {x:List Int} {i:Nat} (h:i<x.length):rd x (i:Int)=x[i]:=by
 simp [rd,h]
theorem ins_l {n:Nat} (hn:n≤12):∀ k,(∀ (x:List Int) (i:Nat),x.length=n->(n - i) * 15+1≤k->∃ r,Q.slices_insertionSortOrdered_int.l0 k x 0 n i=some r∧r.Perm x)∧(∀ (x:List Int) (i j:Nat),x.length=n->j≤i->i<n->(n - i - 1) * 15+2+j≤k->∃ r,Q.slices_insertionSortOrdered_int.l1 k x 0 n i j=some r∧r.Perm x)
 |0=>⟨fun _ _ _ h=>absurd h (by omega),fun _ _ _ _ _ _ h=>absurd h (by omega)⟩
 |k+1=>by
  obtain ⟨ih0,ih1⟩:=ins_l hn k;refine ⟨fun x i hx hk=>?_,fun x i j hx hji hi hk=>?_⟩
  ·unfold Q.slices_insertionSortOrdered_int.l0
   by_cases c:i<n
   ·rw [if_pos (by omega)]
    exact ih1 x i i hx (zLe _) c (by omega)
   ·rw [if_neg (by omega)]
    exact ⟨x,rfl,.refl _⟩
  ·unfold Q.slices_insertionSortOrdered_int.l1
   have e1:wrap64 ((i:Int)+1)=((i+1:Nat):Int):=by rw [w64s (by omega)];rfl
   by_cases c:0<j
   ·have e2:wrap64 ((j:Int) - 1)=((j - 1:Nat):Int):=by rw [w64s (by omega)];omega
    rw [if_pos (by omega),if_pos (by omega),if_pos (by omega),e2,if_pos (by omega),if_pos (by omega),rd_at (by omega),rd_at (by omega),less_f,Option.bind_some,Int.toNat_natCast,Int.toNat_natCast]
    by_cases cc:x[j]'(by omega)<x[j - 1]'(by omega)
    ·rw [if_pos (by simpa using cc)]
     obtain ⟨r,hr,hp⟩:=ih1 ((x.set j x[j - 1]).set (j - 1) x[j]) i (j - 1) (by simp [hx]) (by omega) hi (by omega);exact ⟨r,hr,hp.trans (List.set_set_perm (by omega) (by omega))⟩
    ·rw [if_neg (by simpa using cc),e1]
     exact ih0 x (i+1) hx (by omega)
   ·rw [if_neg (by omega),e1]
    exact ih0 x (i+1) hx (by omega)
def y8f (l:List Int):List Int:=(Q.slices_insertionSortOrdered_int.f 200 l 0 l.length).getD l
theorem y9n {l:List Int} (h:l.length≤12):Q.slices_insertionSortOrdered_int.f 200 l 0 l.length=some (y8f l)∧(y8f l).Perm l:=by
 obtain ⟨r,hr,hp⟩:=(ins_l h 200).1 l 1 rfl (by omega);have e:Q.slices_insertionSortOrdered_int.f 200 l 0 l.length=some r:=by
  show Q.slices_insertionSortOrdered_int.l0 200 l 0 l.length (wrap64 (0+1))=some r;rw [w64s (by omega)];exact hr
 unfold y8f;rw [e];exact ⟨rfl,hp⟩
theorem yg4 (P0_:Nat->Prop) (v:Value) (l:List Int) (b:Int) (hl:l.length≤12) (w0 w:World) (hB:Below w0.heap.size w0 w) (ho:Kd.R (Kd.int .i64) 3 w w0.heap.size P0_ v l) :
  Calls Tra.prog 62 #[v,.int .i64 0,.int .i64 l.length,.int .i64 b] w fun e w'=>e=.returned (.tuple #[])∧Kd.R (Kd.int .i64) 3 w' w0.heap.size (fun k_=>(P0_ k_∨w.heap.size≤k_)) v (y8f l)∧Below w0.heap.size w0 w':=by
 have HC:=As0.mk (Q.slices_insertionSortOrdered_int.calls 200 P0_ v l 0 l.length (y8f l) w0 w hB ho (y9n hl).1);have hle:((l.length:Int)≤12):=by omega
 have hw:wrap64 (l.length:Int)=l.length:=w64s (by omega);clear hB ho;go_enter Tra.func62,Tra.ntmps62
 go_wp2_with fail
 go_loopw [1,2,3,8,9] (fun v1 v2 v3 v8 v9 W=>v1=.int .i64 0∧v2=.int .i64 l.length∧v3=.int .i64 b∧v8=.bool true∧v9=.bool true∧As0 (W=w)) (fun _ _ _ _ _ _=>0)
 case atStart=>exact ⟨rfl,rfl,rfl,rfl,rfl,⟨rfl⟩⟩
 case round =>
  obtain ⟨rfl,rfl,rfl,rfl,rfl,hW⟩:=hrel;obtain rfl:=hW.out;go_wp2_with (first|(go_at_call 77;with_reducible refine HC.out.mono ?_;rintro e w5 ⟨rfl,h1,h2,h3⟩;have H1:=As0.mk h1;have H2:=As0.mk h2;clear h1 h2 h3)|fail)
  first|go_end0|((try simp only [Exit.inBlock,Exit.then]);refine bodyPost_ret (results_none rfl _ _ _) rfl ?_)
  exact ⟨rfl,H1.out,H2.out⟩
theorem ydw (P0_:Nat->Prop) (v:Value) (l:List Int) (hl:l.length≤12) (w0 w:World) (hB:Below w0.heap.size w0 w) (ho:Kd.R (Kd.int .i64) 3 w w0.heap.size P0_ v l) :
  Calls Tra.prog 34 #[v] w fun e w'=>e=.returned (.tuple #[])∧Kd.R (Kd.int .i64) 3 w' w0.heap.size (fun k_=>(P0_ k_∨w.heap.size≤k_)) v (y8f l)∧Below w0.heap.size w0 w':=by
 obtain ⟨b,hb⟩:∃ b,Q.bits_Len.f 200 (l.length:Int)=some b:=by
  have:l.length<13:=by omega
  have h:∀ n:Fin 13,(Q.bits_Len.f 200 (n.val:Int)).isSome=true:=by decide +kernel
  exact Option.isSome_iff_exists.1 (h ⟨l.length,this⟩)
 have HL:=As0.mk hb;have HB:=As0.mk hB;have HO:=As0.mk ho;obtain ⟨A,c,ev⟩:=Kd.R_slice ho;subst ev;clear hB ho hb;go_enter Tra.func34,Tra.ntmps34
 go_wp2_with (first|(go_at_call 63;with_reducible refine (Q.bits_Len.calls 200 (l.length:Int) b _ HL.out).mono ?_;rintro e w' ⟨rfl,⟨nd,rfl⟩⟩)|fail)
 refine (yg4 P0_ _ l b hl w0 _ (y00 HB.out _) (Kd.R_drewN HO.out _)).mono ?_
 rintro e w' ⟨rfl,h1,h2⟩
 have H1:=As0.mk h1;have H2:=As0.mk h2;clear h1 h2;go_wp2_with fail
 first|go_end0|((try simp only [Exit.inBlock,Exit.then]);refine bodyPost_ret (results_none rfl _ _ _) rfl ?_)
 exact ⟨rfl,H1.out,H2.out⟩
end
section
attribute [local go_sem] y0x y0v y16 y15 y0q y0p y0w y0u
theorem yev (n:Int) (h₀:0≤n) (h₁:n<2 ^ 8):IntKind.i64.wrap n=n:=by rw [IntKind.wrap_i64];omega
theorem and_nat {a b:Nat} (ha:a<256) (hb:b<256):Go.bits .and .i64 (a:Int) (b:Int)=((a &&& b:Nat):Int):=(bits_nat .i64 8 (by decide) yev a b ha hb).1
theorem or_nat {a b:Nat} (ha:a<256) (hb:b<256):Go.bits .or .i64 (a:Int) (b:Int)=((a ||| b:Nat):Int):=(bits_nat .i64 8 (by decide) yev a b ha hb).2
theorem y90:∀ (b:Fin 256) (i:Fin 8),(255 - b.val).testBit i.val=!(b.val.testBit i.val):=by decide +kernel
theorem yer {a b:Nat} (ha:a<256) (hb:b<256):Go.bits .andNot .i64 (a:Int) (b:Int)=((a &&& (255 - b):Nat):Int):=by
 have ha':a % 2 ^ 64=a:=Nat.mod_eq_of_lt (by omega);have hb':b % 2 ^ 64=b:=Nat.mod_eq_of_lt (by omega);have e:a &&& (2 ^ 64 - 1 - b)=a &&& (255 - b):=by
  apply Nat.eq_of_testBit_eq;intro i;rw [Nat.testBit_and,Nat.testBit_and]
  by_cases hi:i<8
  ·have h1:=y90 ⟨b,hb⟩ ⟨i,hi⟩
   simp only at h1;have h2:(2 ^ 64 - 1 - b).testBit i=!(b.testBit i):=by
    have:2 ^ 64 - 1 - b=2 ^ 64 - (b+1):=by omega
    rw [this,Nat.testBit_two_pow_sub_succ (by omega)];simp [show i<64 by omega]
   rw [h1,h2]
  ·have:a.testBit i=false:=Nat.testBit_lt_two_pow (Nat.lt_of_lt_of_le ha (by rw [show (256:Nat)=2 ^ 8 from rfl];exact Nat.pow_le_pow_right (by decide) (by omega)))
   rw [this,Bool.false_and,Bool.false_and]
 have hk:IntKind.i64.bits=64:=rfl;simp only [Go.bits,BitVec.ofInt_natCast,BitVec.toNat_and,BitVec.toNat_not,BitVec.toNat_ofNat,hk,ha',hb',e];exact yev _ (Int.natCast_nonneg _) (by have:a &&& (255 - b)≤a:=Nat.and_le_left;omega)
theorem low_nat:∀ L:Fin 256,0<L.val->∃ i:Fin 8,Go.bits .and .i64 (L.val:Int) (-(L.val:Int))=((2 ^ i.val:Nat):Int)∧L.val.testBit i.val=true:=by decide +kernel
def lowN (L:Nat):Nat:=(Go.bits .and .i64 (L:Int) (-(L:Int))).toNat
theorem y7y {L:Nat} (h0:0<L) (h:L<256):Go.bits .and .i64 (L:Int) (-(L:Int))=(lowN L:Int)∧∃ i,i<8∧lowN L=2 ^ i∧L.testBit i=true:=by
 obtain ⟨i,hi,ht⟩:=low_nat ⟨L,h⟩ h0;simp only at hi ht;have e:lowN L=2 ^ i.val:=by unfold lowN;rw [hi];rfl
 exact ⟨by rw [hi,e],i.val,i.isLt,e,ht⟩
def y55 (p:Int × Int):Nat:=2 ^ p.1.toNat ||| 2 ^ p.2.toNat
def tieN (s:Nat) (p:Int × Int):Nat:=if s &&& y55 p=0 then s else s ||| y55 p
def y4h (l:List (Int × Int)):Nat->Nat->Nat
 |0,s=>s
 |i+1,s=>l.foldl tieN (y4h l i s)
def setN (l:List (Int × Int)) (n L:Nat):Nat:=y4h l n (lowN L)
def y1f (l:List (Int × Int)) (n:Nat):Nat->Nat
 |0=>2 ^ n - 1
 |j+1=>y1f l n j &&& (255 - setN l n (y1f l n j))
def y58 (l:List (Int × Int)) (n:Nat) (j:Nat):List Int:=(List.range j).map fun i=>(setN l n (y1f l n i):Int)
theorem lt256 {a b:Nat} (ha:a<256) (hb:b<256):a ||| b<256:=Nat.or_lt_two_pow (n:=8) ha hb
theorem y6q {i:Nat} (h:i<8):2 ^ i<256:=Nat.pow_lt_pow_right (show 1<2 by decide) h
theorem yg7 {p:Int × Int} (h:p.1<8∧p.2<8):y55 p<256:=lt256 (y6q (by omega)) (y6q (by omega))
theorem tie_lt {s:Nat} {p:Int × Int} (hs:s<256) (h:p.1<8∧p.2<8):tieN s p<256:=by
 unfold tieN;split
 ·exact hs
 ·exact lt256 hs (yg7 h)
theorem y95:∀ (l:List (Int × Int)) {s:Nat},(∀ p ∈ l,p.1<8∧p.2<8)->s<256->l.foldl tieN s<256
 |[],_,_,h=>h
 |p :: l,s,hl,h=>y95 l (fun q hq=>hl q (List.mem_cons_of_mem _ hq)) (tie_lt h (hl p (List.mem_cons_self ..)))
theorem yf8 {s i:Nat} {p:Int × Int} (h:s.testBit i=true):(tieN s p).testBit i=true:=by
 unfold tieN;split
 ·exact h
 ·rw [Nat.testBit_or,h,Bool.true_or]
theorem y5b:∀ (l:List (Int × Int)) {s i:Nat},s.testBit i=true->(l.foldl tieN s).testBit i=true
 |[],_,_,h=>h
 |p :: l,_,_,h=>y5b l (yf8 h)
theorem y93 {l:List (Int × Int)} (hl:∀ p ∈ l,p.1<8∧p.2<8):∀ (i:Nat) {s:Nat},s<256->y4h l i s<256
 |0,_,h=>h
 |i+1,_,h=>y95 l hl (y93 hl i h)
theorem yd3 {l:List (Int × Int)} {b:Nat}:∀ (i:Nat) {s:Nat},s.testBit b=true->(y4h l i s).testBit b=true
 |0,_,h=>h
 |i+1,_,h=>y5b l (yd3 i h)
theorem y46 {l:List (Int × Int)} {n:Nat} (hn:n≤8):∀ j,y1f l n j<256
 |0=>by
  show 2 ^ n - 1<256;have:2 ^ n≤2 ^ 8:=Nat.pow_le_pow_right (by decide) hn;have:(2:Nat) ^ 8=256:=rfl;omega
 |j+1=>Nat.lt_of_le_of_lt Nat.and_le_left (y46 hn j)
theorem y9r {l:List (Int × Int)} (hl:∀ p ∈ l,p.1<8∧p.2<8) {n L:Nat} (h0:0<L) (h:L<256):setN l n L<256:=by
 obtain ⟨_,i,hi,e,_⟩:=y7y h0 h;exact y93 hl n (e ▸ y6q hi)
theorem ygo {l:List (Int × Int)} (hl:∀ p ∈ l,p.1<8∧p.2<8) {n L:Nat} (h0:0<L) (h:L<256):∃ i,i<8∧L.testBit i=true∧(setN l n L).testBit i=true∧(L &&& (255 - setN l n L)).testBit i=false:=by
 obtain ⟨_,i,hi,e,ht⟩:=y7y h0 h;have hs:(setN l n L).testBit i=true:=yd3 n (by rw [e,Nat.testBit_two_pow_self]);refine ⟨i,hi,ht,hs,?_⟩;have:=y90 ⟨_,y9r hl (n:=n) h0 h⟩ ⟨i,hi⟩;simp only at this;rw [Nat.testBit_and,this,hs,Bool.not_true,Bool.and_false]
def y3w (L:Nat):Nat:=((List.range 8).filter fun i=>L.testBit i).length
theorem size_le (L:Nat):y3w L≤8:=Nat.le_trans (List.length_filter_le _ _) (by rw [List.length_range];exact zLe _)
theorem y4t {α:Type} (p q:α->Bool):∀ (l:List α),(∀ x ∈ l,q x=true->p x=true)->(∃ x ∈ l,p x=true∧q x=false)->(l.filter q).length<(l.filter p).length
 |[],_,h=>by obtain ⟨_,h,_⟩:=h;cases h
 |x :: l,hs,h=>by
  have hle:(l.filter q).length≤(l.filter p).length:=by
   have:l.filter q=(l.filter p).filter q:=by
    rw [List.filter_filter];refine List.filter_congr fun y hy=>?_
    have:=hs y (List.mem_cons_of_mem _ hy);cases hq:q y<;>simp_all
   rw [this];exact List.length_filter_le _ _
  obtain ⟨y,hy,hp,hq⟩:=h;rw [List.filter_cons,List.filter_cons];rcases List.mem_cons.1 hy with rfl|hy'
  ·rw [if_pos hp,if_neg (by rw [hq];decide),List.length_cons]
   omega
  ·have ih:=y4t p q l (fun z hz=>hs z (List.mem_cons_of_mem _ hz)) ⟨y,hy',hp,hq⟩
   have:=hs x (List.mem_cons_self ..)
   by_cases hqx:q x=true
   ·rw [if_pos hqx,if_pos (this hqx),List.length_cons,List.length_cons]
    omega
   ·rw [if_neg hqx]
    split
    ·simp only [List.length_cons]
     omega
    ·exact ih
theorem y9p {l:List (Int × Int)} (hl:∀ p ∈ l,p.1<8∧p.2<8) {n L:Nat} (h0:0<L) (h:L<256):y3w (L &&& (255 - setN l n L))<y3w L:=by
 obtain ⟨i,hi,ht,hs,hn⟩:=ygo hl (n:=n) h0 h;refine y4t _ _ _ (fun x hx hq=>?_) ⟨i,List.mem_range.2 hi,ht,hn⟩;rw [Nat.testBit_and] at hq;exact ((Bool.and_eq_true ..).mp hq).1
theorem y3f {l:List (Int × Int)} (hl:∀ p ∈ l,p.1<8∧p.2<8) {n:Nat} (hn:n≤8):∀ j,(∀ i,i<j->0<y1f l n i)->y3w (y1f l n j)+j≤8
 |0,_=>size_le _
 |j+1,h=>by
  have ih:=y3f hl hn j (fun i hi=>h i (by omega));have:=y9p hl (n:=n) (h j (by omega)) (y46 hn j);show y3w (y1f l n j &&& (255 - setN l n (y1f l n j)))+(j+1)≤8;omega
theorem y5z (l:List (Int × Int)) (n j:Nat):(y58 l n j).length=j:=by simp [y58]
theorem ygc (l:List (Int × Int)) (n j:Nat):y58 l n (j+1)=y58 l n j ++ [(setN l n (y1f l n j):Int)]:=by simp [y58,List.range_succ]
end
section
attribute [local go_sem] y0x y0v y16 y15 y0q y0p y0w y0u
theorem c16 (x y:Int) (b:Bool) (w:World):Calls Tra.prog 16 #[.agg #[.int .i64 x,.int .i64 y,.bool b]] w fun e w'=>e=.returned (.bool (!b))∧Below w.heap.size w w':=by
 have hu28:=Tra.underlying28;have hB:=y01 (Below.refl w.heap.size w) (.cells #[.int .i64 x,.int .i64 y,.bool b] 28);have hf:=heap_alloc_new w (.cells #[.int .i64 x,.int .i64 y,.bool b] 28);have hc2:=y07 hf 2;simp only [List.getElem?_toArray,List.getElem?_cons_zero,List.getElem?_cons_succ] at hc2;have HB:=As0.mk hB;clear hB hf;go_enter Tra.func16,Tra.ntmps16
 go_wp2_with fail
 go_ret
 exact ⟨rfl,HB.out⟩
theorem ydu {l:List (Int × Int)} {N:Nat} (h:N≤8):wrap64 (wrap64 (2 ^ N) - 1)=(y1f l N 0:Int):=by
 have:∀ n:Fin 9,wrap64 (wrap64 (2 ^ n.val) - 1)=((2 ^ n.val - 1:Nat):Int):=by decide +kernel
 exact this ⟨N,by omega⟩
theorem pow_w {x:Int} (h0:0≤x) (h8:x<8):wrap64 (2 ^ x.toNat)=((2 ^ x.toNat:Nat):Int):=by
 have:∀ n:Fin 8,wrap64 (2 ^ n.val)=((2 ^ n.val:Nat):Int):=by decide +kernel
 exact this ⟨x.toNat,by omega⟩
def y3q (l:List (Int × Int)) (n:Nat):Nat:=((List.range 9).find? fun j=>y1f l n j == 0).getD 0
theorem yh4 {l:List (Int × Int)} (hl:∀ p ∈ l,p.1<8∧p.2<8) {n:Nat} (hn:n≤8) {j:Nat} (hp:∀ i,i<j->0<y1f l n i) (h0:y1f l n j=0):y3q l n=j:=by
 have hj:=y3f hl hn j hp;have e:(List.range 9).find? (fun j=>y1f l n j == 0)=some j:=by
  rw [List.find?_range_eq_some];refine ⟨by rw [h0];rfl,List.mem_range.2 (by omega),fun i hi=>?_⟩;have:=hp i hi;simp;omega
 unfold y3q;rw [e];rfl
def clansL (l:List (Int × Int)) (n:Nat):List Int:=y8f (y58 l n (y3q l n))
theorem row_ne {w:World} {base:Nat} {ok:Nat->Prop} {v:Value} {xs:List Int} {g t:Nat} {cs:Array Value} (h:Kd.R (Kd.int .i64) 3 w base ok v xs) (hg:w.heap[g]?=some (.cells cs t (0,0))) (hk:v.ownBlock=some g) (ht:t≠3:=by decide):False:=by
 obtain ⟨_,_,_,q,hq,cells,hc⟩:=(Kd.R_bound h).1 g hk;rw [hg] at hc;injection hc with hc
 injection hc with _ hc
 rcases List.mem_cons.1 hq with hq|hq
 ·exact ht (hc.trans hq)
 ·cases hq
theorem yas (N:Nat) (A:Option Addr) (c:Nat) (l:List (Int × Int)) (w:World) (hr:Reads3 w A l) (hT:TiesOK (N:Int) l) :
  Calls Tra.prog 15 #[.agg #[.int .i64 (N:Int),.slice A l.length c],.func (.func 16) #[] #[]] w fun e w'=>∃ v,e=.returned v∧Kd.R (Kd.int .i64) 3 w' w.heap.size (fun _=>True) v (clansL l N)∧Below w.heap.size w w':=by
 have HR:=As0.mk hr;have HT:=As0.mk hT;have hn1:=hT.n1;have hn8:=hT.n8;have hfew:=hT.few;have hl8:=As0.mk (show ∀ p ∈ l,p.1<8∧p.2<8 from fun p hp=>by have:=hT.ok p hp;omega);have hu42:=Tra.underlying42;have hu28:=Tra.underlying28;have hB:=y01 (Below.refl w.heap.size w) (.cells #[.int .i64 (N:Int),.slice A l.length c] 42);have hf:=heap_alloc_new w (.cells #[.int .i64 (N:Int),.slice A l.length c] 42);have hc0:=y07 hf 0;have hc1:=y07 hf 1;simp only [List.getElem?_toArray,List.getElem?_cons_zero,List.getElem?_cons_succ] at hc0 hc1;have HB:=As0.mk hB;have HF:=As0.mk hf;clear hB hf hr hT;go_enter Tra.func15,Tra.ntmps15
 go_wp2_with fail
 clear hc0 hc1
 go_loopw [5,6] (fun v5 v6 W=>∃ j:Nat,v6=.int .i64 (y1f l N j:Int)∧As0 (∀ i,i<j->0<y1f l N i)∧As0 (Kd.R (Kd.int .i64) 3 W w.heap.size (fun _=>True) v5 (y58 l N j))∧As0 (W.heap[w.heap.size]?=some (.cells #[.int .i64 (N:Int),.slice A l.length c] 42 (0,0)))∧As0 (Below w.heap.size w W)) (fun _ v6 _=>y3w (intOf v6).toNat)
 case atStart =>
  refine ⟨0,congrArg (Value.int .i64) (ydu (by omega)),⟨fun i h=>absurd h (by omega)⟩,⟨Kd.R_nil _ _ _ _ _⟩,HF,HB⟩
 case round =>
  obtain ⟨j,rfl,hpos,HL,HF,HB⟩:=hrel;have hlt:=y46 (l:=l) (n:=N) (by omega) j;have d0:=y07 HF.out 0;have d1:=y07 HF.out 1;simp only [List.getElem?_toArray,List.getElem?_cons_zero,List.getElem?_cons_succ] at d0 d1
  by_cases h0:0<y1f l N j
  ·obtain ⟨L,hL⟩:∃ L,y1f l N j=L:=⟨_,rfl⟩
   rw [hL] at h0 hlt;simp only [hL];have HLL:=As0.mk hL;clear hL;have h0i:(0:Int)<(L:Int):=by omega
   have hlow:=(y7y h0 hlt).1;go_wp2_with fail
   obtain ⟨wo,rfl⟩:∃ wo:World,wo=wr:=⟨_,rfl⟩
   go_loopw [7,23] (fun v7 v23 W=>∃ i:Nat,v23=.int .i64 i∧v7=.int .i64 (y4h l i (lowN L):Int)∧As0 (i≤N)∧As0 (Below wo.heap.size wo W)) (fun _ v23 _=>(N - intOf v23).toNat)
   case atStart=>exact ⟨0,rfl,rfl,⟨Nat.zero_le _⟩,⟨Below.refl _ _⟩⟩
   case round =>
    obtain ⟨i,rfl,rfl,hi,HBi⟩:=hrel;have hi':=hi.out;have HFi:=As0.mk ((HBi.out.block _ (y1i HF.out)).trans HF.out);have HBw:=As0.mk (y04 HB.out HBi.out);have e0:=y07 HFi.out 0;have e1:=y07 HFi.out 1;simp only [List.getElem?_toArray,List.getElem?_cons_zero,List.getElem?_cons_succ] at e0 e1
    by_cases hin:i<N
    ·have hini:(i:Int)<(N:Int):=by omega
     obtain ⟨S,hS⟩:∃ S,y4h l i (lowN L)=S:=⟨_,rfl⟩
     have hS8:S<256:=by rw [← hS];exact y93 hl8.out i (by have:=(y7y h0 hlt).2;obtain ⟨b,hb,e,_⟩:=this;rw [e];exact y6q hb)
     simp only [hS];have HS:=As0.mk hS;have HS8:=As0.mk hS8;clear hS hS8;go_wp2_with fail
     obtain ⟨wp,rfl⟩:∃ wp:World,wp=wr:=⟨_,rfl⟩
     go_loopw [7,28] (fun v7 v28 W=>∃ q:Nat,v28=.int .i64 q∧v7=.int .i64 (((l.take q).foldl tieN S:Nat):Int)∧As0 (q≤l.length)∧As0 (Below wp.heap.size wp W)) (fun _ v28 _=>(l.length - intOf v28).toNat)
     case atStart=>exact ⟨0,rfl,rfl,⟨Nat.zero_le _⟩,⟨Below.refl _ _⟩⟩
     case round =>
      obtain ⟨q,rfl,rfl,hq,HBq⟩:=hrel;have hq':=hq.out
      by_cases hlq:q<l.length
      ·have hlqi:(q:Int)<(l.length:Int):=by omega
       obtain ⟨s,hs⟩:∃ s,(l.take q).foldl tieN S=s:=⟨_,rfl⟩
       have hs8:s<256:=by rw [← hs];exact y95 _ (fun p hp=>hl8.out p (List.mem_of_mem_take hp)) HS8.out
       have HBB:=As0.mk (y04 HBw.out HBq.out);obtain ⟨ad,rfl,hcl⟩:=(HR.out.below HBB.out) (by omega)
       obtain ⟨hc0,hc1,hc2⟩:=hcl q _ (List.getElem?_eq_getElem hlq);replace hc1:wr.cell? { block:=(ad.add (q * 3)).block,off:=(ad.add (q * 3)).off+1 }=some (.int .i64 l[q].2):=by
        have h:=hc1;rw [← Addr.add_add] at h;generalize ad.add (q * 3)=q at h ⊢;simpa [Addr.add] using h
       replace hc2:wr.cell? { block:=(ad.add (q * 3)).block,off:=(ad.add (q * 3)).off+2 }=some (.bool false):=by
        have h:=hc2;rw [← Addr.add_add] at h;generalize ad.add (q * 3)=q at h ⊢;simpa [Addr.add] using h
       clear hcl;obtain ⟨h0,h1,h2⟩:=HT.out.ok l[q] (List.getElem_mem hlq);have HN:=As0.mk (show (l.take (q+1)).foldl tieN S=tieN s l[q] from by rw [List.take_succ_eq_append_getElem hlq,List.foldl_append,hs];rfl);obtain ⟨⟨x,y⟩,hxe⟩:∃ x:Int × Int,x=l[q]:=⟨_,rfl⟩
       rw [← hxe] at hc0 hc1 h0 h1 h2 HN;simp only at hc0 hc1 h0 h1 h2;have hpx:=pow_w h0 (by omega);have hpy:=pow_w (x:=y) (by omega) (by omega);have hpo:Go.bits .or .i64 ((2 ^ x.toNat:Nat):Int) ((2 ^ y.toNat:Nat):Int)=(y55 (x,y):Int):=or_nat (y6q (by omega)) (y6q (by omega));have hpo':Go.bits .or .i64 (2 ^ x.toNat) (2 ^ y.toNat)=(y55 (x,y):Int):=by rw [← hpo,Int.natCast_pow,Int.natCast_pow];rfl
       clear hpo;have hp8:y55 (x,y)<256:=yg7 (p:=(x,y)) ⟨by show x<8;omega,by show y<8;omega⟩;have hsa:=and_nat hs8 hp8;have hso:=or_nat hs8 hp8;have hb1:=y01 (Below.refl wr.heap.size wr) (.cells #[.int .i64 x,.int .i64 y,.bool false] 28);have HB1:=As0.mk (y04 HBq.out hb1);have HC:=As0.mk (c16 x y false (wr.alloc (.cells #[.int .i64 x,.int .i64 y,.bool false] 28)));simp only [hs];have hx0:¬ x<0:=by omega
       have hy0:¬ y<0:=by omega
       clear hb1 hxe hs;have g0:=y07 (heap_alloc_new wr (.cells #[.int .i64 x,.int .i64 y,.bool false] 28)) 0;have g1:=y07 (heap_alloc_new wr (.cells #[.int .i64 x,.int .i64 y,.bool false] 28)) 1;have g2:=y07 (heap_alloc_new wr (.cells #[.int .i64 x,.int .i64 y,.bool false] 28)) 2;simp only [List.getElem?_toArray,List.getElem?_cons_zero,List.getElem?_cons_succ] at g0 g1 g2;go_wp2_with fail
       go_quiet (fail)
       go_wp2_with fail
       obtain ⟨wz,hwz⟩:∃ wz:World,wz=(wr.alloc (.cells #[.int .i64 x,.int .i64 y,.bool false] 28)).drewN nq:=⟨_,rfl⟩
       have HBz:=As0.mk (show Below wp.heap.size wp wz from hwz ▸ y00 HB1.out _);rw [← hwz];clear hwz g0 g1 g2;refine (c16 x y false wz).mono ?_
       rintro e w5 ⟨rfl,hb5⟩
       have HB5:=As0.mk (y04 HBz.out hb5);clear hb5
       by_cases hz:s &&& y55 (x,y)=0
       ·have hzi:((s &&& y55 (x,y):Nat):Int)=0:=by omega
        have hN2:tieN s (x,y)=s:=if_pos hz;go_wp2_with fail
        go_roundw
        case rel=>exact ⟨q+1,by go_num,by rw [HN.out,hN2],⟨by omega⟩,HB5⟩
        case measure=>simp [intOf];omega
       ·have hzi:((s &&& y55 (x,y):Nat):Int)≠0:=by omega
        have hN2:tieN s (x,y)=s ||| y55 (x,y):=if_neg hz
        go_wp2_with fail
        go_roundw
        case rel=>exact ⟨q+1,by go_num,by rw [HN.out,hN2],⟨by omega⟩,HB5⟩
        case measure=>simp [intOf];omega
      ·have hlqi:¬ (q:Int)<(l.length:Int):=by omega
       have hqe:q=l.length:=by omega
       subst hqe;rw [List.take_length];have HB5:=As0.mk (y04 HBi.out HBq.out);go_wp2_with fail
       go_roundw
       case rel=>exact ⟨i+1,by go_num,by rw [← HS.out];rfl,⟨by omega⟩,HB5⟩
       case measure=>simp [intOf];omega
    ·have hini:¬ (i:Int)<(N:Int):=by omega
     have hie:i=N:=by omega
     subst hie;have HL1:=As0.mk (Kd.R_below HL.out HBi.out);have hjl:(y58 l i j).length≤8:=by
      rw [y5z];have:=y3f hl8.out (by omega) j hpos.out;omega
     have hset:y4h l i (lowN L)=setN l i L:=rfl;simp only [hset];go_wp2_with (first|((with_reducible refine y10 (b:=.append) (xs:=#[.tmp 53,.tmp 55]) rfl ?_);at_builtin;refine Kd.R_append (Kd.int .i64) (w0:=w) w.heap.size rfl (.tmp 53) (.tmp 55) 29 3 (.int .i64 0) 8 rfl Tra.underlying29 Tb.info3 rfl (by decide) (by omega) u5 (y58 l i j) (setN l i L:Int) [.int .i64 (setN l i L:Int)] (fun _=>True) (fun _=>False) rfl rfl rfl (fun _ hk=>hk.elim) (fun _ _=>trivial) HL1.out HBw.out (y05 HBw.out) (by omega) ?_)|fail)
     intro v6 w6 hR6 hB6 hg6 hat6;have HL6:=As0.mk hR6;have HB6:=As0.mk hB6;have HF6:=As0.mk ((hg6.block _ (y1i HFi.out) (fun hk=>row_ne HL1.out HFi.out hk.symm)).trans HFi.out);clear hR6 hB6 hg6 hat6;have hln:=yer hlt (y9r hl8.out (n:=i) h0 hlt);go_wp2_with fail
     refine ⟨⟨j+1,?_,⟨fun b hb=>?_⟩,⟨?_⟩,HF6,HB6⟩,?_⟩
     ·show _=Value.int .i64 ((y1f l i j &&& (255 - setN l i (y1f l i j)):Nat):Int)
      rw [HLL.out]
     ·by_cases hbj:b<j
      ·exact hpos.out b hbj
      ·have:b=j:=by omega
       rw [this,HLL.out];exact h0
     ·rw [ygc,HLL.out]
      exact HL6.out
     ·exact y9p hl8.out h0 hlt
  ·have h0i:¬ (0:Int)<(y1f l N j:Int):=by omega
   go_wp2_with fail
   have hjl:(y58 l N j).length≤12:=by
    rw [y5z];have:=y3f hl8.out (by omega) j hpos.out;omega
   refine (ydw (fun _=>True) _ (y58 l N j) hjl w _ HB.out HL.out).mono ?_
   rintro e w5 ⟨rfl,h1,h2⟩
   have H1:=As0.mk h1;have H2:=As0.mk h2;clear h1 h2;go_wp2_with fail
   go_ret
   exact ⟨_,rfl,by unfold clansL;rw [yh4 hl8.out (by omega) hpos.out (by omega)];exact Kd.R_mono H1.out (fun _ _=>trivial),H2.out⟩
end
section
attribute [local go_sem] y0x y0v y16 y15 y0q y0p y0w y0u
theorem clans_calls (N:Nat) (A:Option Addr) (c:Nat) (l:List (Int × Int)) (w:World) (hr:Reads3 w A l) (hT:TiesOK (N:Int) l) :
  Calls Tra.prog 6 #[.int .i64 (N:Int),.slice A l.length c] w fun e w'=>∃ v,e=.returned (.tuple #[v,.int .i64 0])∧Kd.R (Kd.int .i64) 3 w' w.heap.size (fun _=>True) v (clansL l N)∧Below w.heap.size w w':=by
 have HR:=As0.mk hr;have HT:=As0.mk hT;have hfew:=hT.few;have hu42:=Tra.underlying42;have hu28:=Tra.underlying28;have HF:=As0.mk (yc2 (N:Int) A c l w hr hT);clear hr hT;go_enter Tra.func6,Tra.ntmps6
 go_wp2_with (first|(go_at_call 14;with_reducible refine HF.out.mono ?_;rintro e w1 ⟨rfl,hb1⟩;have HB1:=As0.mk hb1;clear hb1)|fail)
 have hb2:=y01 (Below.refl w1.heap.size w1) (.cells #[.int .i64 (N:Int),.slice A l.length c] 42);have HB2:=As0.mk (y04 HB1.out hb2);refine (yas N A c l _ (HR.out.below HB2.out) HT.out).mono ?_
 rintro e w3 ⟨v,rfl,hR3,hb3⟩
 have HB3:=As0.mk (y04 HB2.out hb3);have HL:=As0.mk (Kd.R_lower hR3 HB2.out.size);clear hb2 hb3 hR3;go_wp2_with fail
 obtain ⟨wo,rfl⟩:∃ wo:World,wo=w3:=⟨_,rfl⟩
 go_loopw [24] (fun v24 W=>∃ q:Nat,v24=.int .i64 q∧As0 (q≤l.length)∧As0 (Below wo.heap.size wo W)) (fun v24 _=>(l.length - intOf v24).toNat)
 case atStart=>exact ⟨0,rfl,⟨Nat.zero_le _⟩,⟨Below.refl _ _⟩⟩
 case round =>
  obtain ⟨q,rfl,hq,HBq⟩:=hrel;have hq':=hq.out
  by_cases hlq:q<l.length
  ·have hlqi:(q:Int)<(l.length:Int):=by omega
   have HBB:=As0.mk (y04 HB3.out HBq.out);obtain ⟨ad,rfl,hcl⟩:=(HR.out.below HBB.out) (by omega)
   obtain ⟨hc0,hc1,hc2⟩:=hcl q _ (List.getElem?_eq_getElem hlq);replace hc1:wr.cell? { block:=(ad.add (q * 3)).block,off:=(ad.add (q * 3)).off+1 }=some (.int .i64 l[q].2):=by
    have h:=hc1;rw [← Addr.add_add] at h;generalize ad.add (q * 3)=q at h ⊢;simpa [Addr.add] using h
   replace hc2:wr.cell? { block:=(ad.add (q * 3)).block,off:=(ad.add (q * 3)).off+2 }=some (.bool false):=by
    have h:=hc2;rw [← Addr.add_add] at h;generalize ad.add (q * 3)=q at h ⊢;simpa [Addr.add] using h
   clear hcl;obtain ⟨⟨x,y⟩,hxe⟩:∃ x:Int × Int,x=l[q]:=⟨_,rfl⟩
   rw [← hxe] at hc0 hc1;simp only at hc0 hc1;clear hxe;have HB5:=As0.mk (y01 HBq.out (.cells #[.int .i64 x,.int .i64 y,.bool false] 28));have g2:=y07 (heap_alloc_new wr (.cells #[.int .i64 x,.int .i64 y,.bool false] 28)) 2;simp only [List.getElem?_toArray,List.getElem?_cons_zero,List.getElem?_cons_succ] at g2;go_wp2_with fail
   go_roundw
   case rel=>exact ⟨q+1,by go_num,⟨by omega⟩,HB5⟩
   case measure=>simp [intOf];omega
  ·have hlqi:¬ (q:Int)<(l.length:Int):=by omega
   have HB4:=As0.mk (y04 HB3.out HBq.out);have HL4:=As0.mk (Kd.R_below HL.out HBq.out);go_wp2_with fail
   go_ret2
   exact ⟨_,rfl,HL4.out,HB4.out⟩
end
end Go.Proofs.Ytfgcijifdbgpaaa.Gr
namespace Go.Proofs.Ytfgcijifdbgpaaa.Tb
open Go.RowKit Go.Lib Go.Proofs.YtfgcijifdbgpaaaW.Wd Go.Proofs.YtfgcijifdbgpaaaW.La Go.Proofs.YtfgcijifdbgpaaaW.Mo
attribute [local go_sem] y0x y0v y16 y15 y0q y0p y0w y0u
structure FieldOK (m:Int) (l:List Int):Prop where
 m1:1≤m
 m9:m≤5
 few:l.length≤12
 lo:∀ x ∈ l,1≤x∧x<pw m
theorem FieldOK.none {m:Int} {l:List Int} (h:FieldOK m l):(l.any fun x=>decide (x<1) || decide (wrap64 (2 ^ m.toNat)≤x))=false:=by
 rw [List.any_eq_false];intro x hx;obtain ⟨h1,h2⟩:=h.lo x hx;rw [Bool.not_eq_true,Bool.or_eq_false_iff];exact ⟨zDf (by omega),zDf (Int.not_le.2 h2)⟩
theorem yea (m:Int) (A:Option Addr) (c:Nat) (l:List Int) (w:World) (hr:Kd.C (Kd.int .i64) w A l.length l) (hc:l.length≤c) (hF:FieldOK m l) :
  Calls Tra.prog 88 #[.int .i64 m,.slice A l.length c] w fun e w'=>e=.returned (.tuple #[.agg #[.int .i64 m,.slice A l.length c],.int .i64 0])∧Below w.heap.size w w':=by
 have hmf:∀ (fn:Fn) (first cap:Array Value) (w:World),(Instr.makeFunc fn first cap).run Tra.prog w=.ok (.func fn first cap) w:=fun _ _ _ _=>rfl
 have hu36:=Tra.underlying100;have hm1:=hF.m1;have hm9:=hF.m9;have hfew:=hF.few;have hfew':¬ (12:Int)<(l.length:Int):=by omega
 have hB:=y01 (y01 (Below.refl w.heap.size w) (.cells #[.int .i64 m] 3)) (.cells #[.int .i64 0,.slice none 0 0] 100);have HB:=As0.mk hB;have hbm:((w.alloc (.cells #[.int .i64 m] 3)).alloc (.cells #[.int .i64 0,.slice none 0 0] 100)).heap[w.heap.size]?=some (.cells #[.int .i64 m] 3 (0,0)):=y0d (heap_alloc_new w (.cells #[.int .i64 m] 3)) _;have hc0:=y07 hbm 0;simp only [List.getElem?_toArray,List.getElem?_cons_zero] at hc0;have HC:=yc4 (fun x=>decide (x<1) || decide (wrap64 (2 ^ m.toNat)≤x)) w.heap.size A c l _ (Kd.C_below hr hB) hc (fun x hx=>c28 x m ⟨by omega,by omega⟩ w.heap.size _ hbm);rw [hF.none] at HC;have HC:=As0.mk HC;clear hbm hB hr hF;go_enter Tra.func88,Tra.ntmps88
 go_wp2_with (first|(go_at_call 17;with_reducible refine HC.out.mono ?_;rintro e w5 ⟨rfl,rfl⟩)|fail)
 refine bodyPost_ret (y35 (rs:=[.cell 4 100,.tmp 5]) rfl (by simp) (.cell (w.heap.size+1) 100 #[.int .i64 m,.slice A l.length c] (0,0) _ rfl (y3o _ (asize _ _)) Tra.underlying100 rfl (by kernel_rfl) (.tmp .nil))) rfl ?_;exact ⟨rfl,by repeat (first|(with_reducible exact Below.refl _ _)|(with_reducible apply y01))⟩
theorem y1d (w:World) (k:Nat) (s:ByteArray) (pos:Nat) {j:Nat} (h:j≠k):(w.iterAt k s pos).heap[j]?=w.heap[j]?:=by
 simp [World.iterAt,Array.getElem?_setIfInBounds_ne (Ne.symm h)]
theorem y5p {w W:World} {B k:Nat} (h:Below B w W) (hk:B≤k) (s:ByteArray) (pos:Nat):Below B w (W.iterAt k s pos) :=
 ⟨h.os,h.tape,h.output,by simpa [World.iterAt] using h.size,fun j hj=>(y1d W k s pos (by omega)).trans (h.block j hj)⟩
def y1g (s:ByteArray):Nat->Int × Int
 |0=>(0,0)
 |i+1=>if s.get! i=119 then (Go.bits .or .i64 (y1g s i).1 (wrap64 (2 ^ i)),(y1g s i).2) else if s.get! i=100 then ((y1g s i).1,Go.bits .or .i64 (y1g s i).2 (wrap64 (2 ^ i))) else y1g s i
structure y9a (m:Int) (s:ByteArray):Prop where
 size:(s.size:Int)=m
 few:s.size≤9
 let':∀ i (h:i<s.size),s[i]=119∨s[i]=100∨s[i]=46
theorem yaf (m:Int) (A:Option Addr) (c:Nat) (l:List Int) (s:ByteArray) (w:World) (hr:Kd.C (Kd.int .i64) w A l.length l) (hc:l.length≤c) (hF:FieldOK m l) (hS:y9a m s) :
  Calls Tra.prog 69 #[.int .i64 m,.slice A l.length c,.string s] w fun e w'=>e=.returned (.tuple #[.agg #[.int .i64 m,.slice A l.length c],.agg #[.int .i64 (y1g s s.size).1,.int .i64 (y1g s s.size).2],.int .i64 0])∧Below w.heap.size w w':=by
 have hu36:=Tra.underlying100;have hu38:=Tra.underlying102;have hu9:=Tra.underlying9;have hm1:=hF.m1;have hm5:=hF.m9;have hsz:=hS.size;have hB2:=y01 (y01 (Below.refl w.heap.size w) (.cells #[.int .i64 0,.slice none 0 0] 100)) (.cells #[.int .i64 0,.int .i64 0] 102);have HB2:=As0.mk hB2;have HR:=As0.mk (yea m A c l _ (Kd.C_below hr hB2) hc hF);have hb1:((w.alloc (.cells #[.int .i64 0,.slice none 0 0] 100)).alloc (.cells #[.int .i64 0,.int .i64 0] 102)).heap[w.heap.size]?=some (.cells #[.int .i64 0,.slice none 0 0] 100 (0,0)):=y0d (heap_alloc_new w (.cells #[.int .i64 0,.slice none 0 0] 100)) _;have hb2:((w.alloc (.cells #[.int .i64 0,.slice none 0 0] 100)).alloc (.cells #[.int .i64 0,.int .i64 0] 102)).heap[w.heap.size+1]?=some (.cells #[.int .i64 0,.int .i64 0] 102 (0,0)):=y3o _ (asize _ _);have HS:=As0.mk hS;clear hr hF hS hB2;go_enter Tra.func69,Tra.ntmps69
 go_wp2_with (first|(go_at_call 88;with_reducible refine HR.out.mono ?_;rintro e w1 ⟨rfl,hbr⟩;have HB3:=As0.mk (y04 HB2.out hbr);have HBb1:=As0.mk (y0r hb1 hbr);have HBb2:=As0.mk (y0r hb2 hbr);clear hbr hb1 hb2)|fail)
 have hs1:=HBb1.out;have h1s:=y1i hs1;have h2s:=y1i HBb2.out;have hw1:w.heap.size+2≤w1.heap.size:=by omega
 clear hs1 h1s h2s
 go_loopw [33] (fun _ W=>∃ (i:Nat),As0 (i≤s.size)∧As0 (W.heap[w.heap.size]?=some (.cells #[.int .i64 0,.slice none 0 0] 100 (0,0)))∧As0 (W.heap[w.heap.size+1]?=some (.cells #[.int .i64 0,.int .i64 0] 102 (0,0)))∧As0 (W.heap[w1.heap.size]?=some (.cells #[.int .i64 m,.slice A l.length c] 100 (0,0)))∧As0 (W.heap[w1.heap.size+1]?=some (.cells #[.int .i64 (y1g s i).1,.int .i64 (y1g s i).2] 102 (0,0)))∧As0 (W.heap[w1.heap.size+1+1]?=some (.stringIter s i))∧As0 (Below w.heap.size w W)) (fun _ W=>s.size - W.iterPos (w1.heap.size+1+1))
 case atStart=>exact ⟨0,⟨Nat.zero_le _⟩,⟨y0d (y0d (y0d HBb1.out _) _) _⟩,⟨y0d (y0d (y0d HBb2.out _) _) _⟩,⟨y0d (y0d (y3o _ rfl) _) _⟩,⟨y0d (y3o _ (asize _ _)) _⟩,⟨y3o _ (by simp only [asize])⟩,⟨y01 (y01 (y01 HB3.out _) _) _⟩⟩
 case round =>
  clear HBb1 HBb2 HB3;obtain ⟨i,hi,H1,H2,H3,H4,HI,HB⟩:=hrel;have hi':=hi.out
  by_cases hlt:i<s.size
  ·obtain ⟨⟨q1,q2⟩,hq⟩:∃ q,y1g s i=q:=⟨_,rfl⟩
   rw [hq] at H4;rcases HS.out.let' i hlt with hch|hch|hch
   ·skip
    have hnx:=fun ty=>run_next_ascii_at (P:=Tra.prog) wr (w1.heap.size+1+1) s i ty HI.out hlt (by rw [hch];decide)
    rw [hch] at hnx;have hnx':∀ ty,(Instr.next (.pointer (some ⟨w1.heap.size+1+1,0,none⟩)) true ty).run Tra.prog wr=.ok (.tuple #[.bool true,.int .i64 (i:Int),.int .i32 119]) (wr.iterAt (w1.heap.size+1+1) s (i+1)):=hnx;have HPL:=As0.mk (show y1g s (i+1)=(Go.bits .or .i64 q1 (wrap64 (2 ^ i)),q2) from by
     have hg:s.get! i=119:=by rw [← hch];simp [ByteArray.get!,getElem!_pos,hlt];rfl
     rw [y1g,hg,hq];rfl)
    clear hnx hch;have J1:=As0.mk ((y1d wr (w1.heap.size+1+1) s (i+1) (show w.heap.size≠w1.heap.size+1+1 by omega)).trans H1.out);have J2:=As0.mk ((y1d wr (w1.heap.size+1+1) s (i+1) (show w.heap.size+1≠w1.heap.size+1+1 by omega)).trans H2.out);have J3:=As0.mk ((y1d wr (w1.heap.size+1+1) s (i+1) (show w1.heap.size≠w1.heap.size+1+1 by omega)).trans H3.out);have J4:=As0.mk ((y1d wr (w1.heap.size+1+1) s (i+1) (show w1.heap.size+1≠w1.heap.size+1+1 by omega)).trans H4.out);have JI:=As0.mk (iterAt_heap wr (w1.heap.size+1+1) s i (i+1) HI.out);have JB:=As0.mk (y5p HB.out (show w.heap.size≤w1.heap.size+1+1 by omega) s (i+1));have hip:=iterPos_of HI.out;have hjp:=iterPos_of JI.out;clear H1 H2 H3 H4 HI HB;generalize wr.iterAt (w1.heap.size+1+1) s (i+1)=w2 at J1 J2 J3 J4 JI JB hjp hnx';go_wp2_with fail
    have K1:=As0.mk (y0r J1.out (y02 (Below.refl _ _)));have K2:=As0.mk (y0r J2.out (y02 (Below.refl _ _)));have K3:=As0.mk (y0r J3.out (y02 (Below.refl _ _)));have K4:=As0.mk (y0r J4.out (y02 (Below.refl _ _)));have KI:=As0.mk (show w2.drew.heap[w1.heap.size+1+1]?=some (.stringIter s (i+1)) from JI.out);have KB:=As0.mk (y02 JB.out);have hq1:w2.drew.cell? ⟨w1.heap.size+1,0,none⟩=some (.int .i64 q1):=(y07 K4.out 0).trans rfl;have hq2:w2.drew.cell? ⟨w1.heap.size+1,1,none⟩=some (.int .i64 q2):=(y07 K4.out 1).trans rfl;have hz0:=y09 K4.out 0;have hz1:=y09 K4.out 1;clear J1 J2 J3 J4 JI JB;refine y2d (n:=7) (S:=fun w'=>w'.cell? ⟨w1.heap.size+1,0,none⟩=some (.int .i64 q1)∧w'.cell? ⟨w1.heap.size+1,1,none⟩=some (.int .i64 q2)) (ds:=[6]) #[false,false,false,false,false,false,false] (by kernel_rfl) rfl rfl ⟨hq1,hq2⟩ (fun hHeld=>?_);refine y0e (i:=0) (N:=some 42) (v:=?_) (a':=?_) #[true,false,false,false,false,false,false] rfl rfl (by kernel_rfl) (fun _ _ _ h=>h) (Or.inl ⟨by rfl,?_⟩) ?_ ?_;rotate_left
    ·intro w'
     go_simp
     with_reducible rfl
    rotate_left
    ·simp only [Act.put,List.setIfInBounds_toArray,List.set_cons_zero,List.set_cons_succ,y0a,y0b]
     rfl
    refine y1l (i:=1) (N:=some 43) (v:=?_) (a':=?_) #[true,true,false,false,false,false,false] rfl rfl (by kernel_rfl) (fun _ _ _ h=>h) (Or.inl ⟨by rfl,?_⟩) hHeld ?_ ?_;rotate_left
    ·rintro w' ⟨s0,s1⟩
     go_simp
     with_reducible rfl
    rotate_left
    ·simp only [Act.put,List.setIfInBounds_toArray,List.set_cons_zero,List.set_cons_succ,y0a,y0b]
     rfl
    refine y0e (i:=2) (N:=some 44) (v:=?_) (a':=?_) #[true,true,true,false,false,false,false] rfl rfl (by kernel_rfl) (fun _ _ _ h=>h) (Or.inl ⟨by rfl,?_⟩) ?_ ?_;rotate_left
    ·intro w'
     go_simp
     with_reducible rfl
    rotate_left
    ·simp only [Act.put,List.setIfInBounds_toArray,List.set_cons_zero,List.set_cons_succ,y0a,y0b]
     rfl
    refine y0e (i:=3) (N:=some 45) (v:=?_) (a':=?_) #[true,true,true,true,false,false,false] rfl rfl (by kernel_rfl) (fun _ _ _ h=>h) (Or.inl ⟨by rfl,?_⟩) ?_ ?_;rotate_left
    ·intro w'
     go_simp
     with_reducible rfl
    rotate_left
    ·simp only [Act.put,List.setIfInBounds_toArray,List.set_cons_zero,List.set_cons_succ,y0a,y0b]
     rfl
    refine y0e (i:=4) (N:=some 46) (v:=?_) (a':=?_) #[true,true,true,true,true,false,false] rfl rfl (by kernel_rfl) (fun _ _ _ h=>h) (Or.inl ⟨by rfl,?_⟩) ?_ ?_;rotate_left
    ·intro w'
     go_simp
     with_reducible rfl
    rotate_left
    ·simp only [Act.put,List.setIfInBounds_toArray,List.set_cons_zero,List.set_cons_succ,y0a,y0b]
     rfl
    refine y0e (i:=5) (N:=some 47) (v:=?_) (a':=?_) #[true,true,true,true,true,true,false] rfl rfl (by kernel_rfl) (fun _ _ _ h=>h) (Or.inl ⟨by rfl,?_⟩) ?_ ?_;rotate_left
    ·intro w'
     go_simp
     with_reducible rfl
    rotate_left
    ·simp only [Act.put,List.setIfInBounds_toArray,List.set_cons_zero,List.set_cons_succ,y0a,y0b]
     rfl
    refine y7h (i:=6) (N:=none) #[true,true,true,true,true,true,true] rfl rfl (by kernel_rfl) (by decide) (fun K hK=>?_);refine y5w (w1:=?_) (by rfl) rfl ?_ ?_;rotate_left
    ·go_simp
     rfl
    refine hK.out _ _ ?_;clear hK K;refine y3x (by kernel_rfl) ?_;go_wp2_with fail
    go_roundw
    case rel=>exact ⟨i+1,⟨by omega⟩,⟨y1b K1.out (by show w.heap.size≠w1.heap.size+1;omega) _⟩,⟨y1b K2.out (by show w.heap.size+1≠w1.heap.size+1;omega) _⟩,⟨y1b K3.out (by show w1.heap.size≠w1.heap.size+1;omega) _⟩,⟨by rw [HPL.out];exact y0y K4.out 0 _ rfl⟩,⟨(Below.heap_setCell _ _ _ _ (by show w1.heap.size+1+1≠w1.heap.size+1;omega)).trans KI.out⟩,⟨KB.out.setCell (by show w.heap.size≤w1.heap.size+1;omega) _⟩⟩
    case measure =>
     rw [hip];have hkp:((w2.setCell ⟨w1.heap.size+1,0,none⟩ (.int .i64 (Go.bits .or .i64 q1 (wrap64 (2 ^ i))))).drew).iterPos (w1.heap.size+1+1)=i+1:=iterPos_of ((Below.heap_setCell _ _ _ _ (by show w1.heap.size+1+1≠w1.heap.size+1;omega)).trans KI.out)
     first|(rw [hkp];omega)|(have e:=hkp;simp only [World.iterPos] at e ⊢;omega)
   ·skip
    have hnx:=fun ty=>run_next_ascii_at (P:=Tra.prog) wr (w1.heap.size+1+1) s i ty HI.out hlt (by rw [hch];decide)
    rw [hch] at hnx;have hnx':∀ ty,(Instr.next (.pointer (some ⟨w1.heap.size+1+1,0,none⟩)) true ty).run Tra.prog wr=.ok (.tuple #[.bool true,.int .i64 (i:Int),.int .i32 100]) (wr.iterAt (w1.heap.size+1+1) s (i+1)):=hnx;have HPL:=As0.mk (show y1g s (i+1)=(q1,Go.bits .or .i64 q2 (wrap64 (2 ^ i))) from by
     have hg:s.get! i=100:=by rw [← hch];simp [ByteArray.get!,getElem!_pos,hlt];rfl
     rw [y1g,hg,hq];rfl)
    clear hnx hch;have J1:=As0.mk ((y1d wr (w1.heap.size+1+1) s (i+1) (show w.heap.size≠w1.heap.size+1+1 by omega)).trans H1.out);have J2:=As0.mk ((y1d wr (w1.heap.size+1+1) s (i+1) (show w.heap.size+1≠w1.heap.size+1+1 by omega)).trans H2.out);have J3:=As0.mk ((y1d wr (w1.heap.size+1+1) s (i+1) (show w1.heap.size≠w1.heap.size+1+1 by omega)).trans H3.out);have J4:=As0.mk ((y1d wr (w1.heap.size+1+1) s (i+1) (show w1.heap.size+1≠w1.heap.size+1+1 by omega)).trans H4.out);have JI:=As0.mk (iterAt_heap wr (w1.heap.size+1+1) s i (i+1) HI.out);have JB:=As0.mk (y5p HB.out (show w.heap.size≤w1.heap.size+1+1 by omega) s (i+1));have hip:=iterPos_of HI.out;have hjp:=iterPos_of JI.out;clear H1 H2 H3 H4 HI HB;generalize wr.iterAt (w1.heap.size+1+1) s (i+1)=w2 at J1 J2 J3 J4 JI JB hjp hnx';go_wp2_with fail
    have K1:=As0.mk (y0r J1.out (y02 (Below.refl _ _)));have K2:=As0.mk (y0r J2.out (y02 (Below.refl _ _)));have K3:=As0.mk (y0r J3.out (y02 (Below.refl _ _)));have K4:=As0.mk (y0r J4.out (y02 (Below.refl _ _)));have KI:=As0.mk (show w2.drew.heap[w1.heap.size+1+1]?=some (.stringIter s (i+1)) from JI.out);have KB:=As0.mk (y02 JB.out);have hq1:w2.drew.cell? ⟨w1.heap.size+1,0,none⟩=some (.int .i64 q1):=(y07 K4.out 0).trans rfl;have hq2:w2.drew.cell? ⟨w1.heap.size+1,1,none⟩=some (.int .i64 q2):=(y07 K4.out 1).trans rfl;have hz0:=y09 K4.out 0;have hz1:=y09 K4.out 1;clear J1 J2 J3 J4 JI JB;refine y2d (n:=7) (S:=fun w'=>w'.cell? ⟨w1.heap.size+1,0,none⟩=some (.int .i64 q1)∧w'.cell? ⟨w1.heap.size+1,1,none⟩=some (.int .i64 q2)) (ds:=[6]) #[false,false,false,false,false,false,false] (by kernel_rfl) rfl rfl ⟨hq1,hq2⟩ (fun hHeld=>?_);refine y0e (i:=0) (N:=some 50) (v:=?_) (a':=?_) #[true,false,false,false,false,false,false] rfl rfl (by kernel_rfl) (fun _ _ _ h=>h) (Or.inl ⟨by rfl,?_⟩) ?_ ?_;rotate_left
    ·intro w'
     go_simp
     with_reducible rfl
    rotate_left
    ·simp only [Act.put,List.setIfInBounds_toArray,List.set_cons_zero,List.set_cons_succ,y0a,y0b]
     rfl
    refine y1l (i:=1) (N:=some 51) (v:=?_) (a':=?_) #[true,true,false,false,false,false,false] rfl rfl (by kernel_rfl) (fun _ _ _ h=>h) (Or.inl ⟨by rfl,?_⟩) hHeld ?_ ?_;rotate_left
    ·rintro w' ⟨s0,s1⟩
     go_simp
     with_reducible rfl
    rotate_left
    ·simp only [Act.put,List.setIfInBounds_toArray,List.set_cons_zero,List.set_cons_succ,y0a,y0b]
     rfl
    refine y0e (i:=2) (N:=some 52) (v:=?_) (a':=?_) #[true,true,true,false,false,false,false] rfl rfl (by kernel_rfl) (fun _ _ _ h=>h) (Or.inl ⟨by rfl,?_⟩) ?_ ?_;rotate_left
    ·intro w'
     go_simp
     with_reducible rfl
    rotate_left
    ·simp only [Act.put,List.setIfInBounds_toArray,List.set_cons_zero,List.set_cons_succ,y0a,y0b]
     rfl
    refine y0e (i:=3) (N:=some 53) (v:=?_) (a':=?_) #[true,true,true,true,false,false,false] rfl rfl (by kernel_rfl) (fun _ _ _ h=>h) (Or.inl ⟨by rfl,?_⟩) ?_ ?_;rotate_left
    ·intro w'
     go_simp
     with_reducible rfl
    rotate_left
    ·simp only [Act.put,List.setIfInBounds_toArray,List.set_cons_zero,List.set_cons_succ,y0a,y0b]
     rfl
    refine y0e (i:=4) (N:=some 54) (v:=?_) (a':=?_) #[true,true,true,true,true,false,false] rfl rfl (by kernel_rfl) (fun _ _ _ h=>h) (Or.inl ⟨by rfl,?_⟩) ?_ ?_;rotate_left
    ·intro w'
     go_simp
     with_reducible rfl
    rotate_left
    ·simp only [Act.put,List.setIfInBounds_toArray,List.set_cons_zero,List.set_cons_succ,y0a,y0b]
     rfl
    refine y0e (i:=5) (N:=some 55) (v:=?_) (a':=?_) #[true,true,true,true,true,true,false] rfl rfl (by kernel_rfl) (fun _ _ _ h=>h) (Or.inl ⟨by rfl,?_⟩) ?_ ?_;rotate_left
    ·intro w'
     go_simp
     with_reducible rfl
    rotate_left
    ·simp only [Act.put,List.setIfInBounds_toArray,List.set_cons_zero,List.set_cons_succ,y0a,y0b]
     rfl
    refine y7h (i:=6) (N:=none) #[true,true,true,true,true,true,true] rfl rfl (by kernel_rfl) (by decide) (fun K hK=>?_);refine y5w (w1:=?_) (by rfl) rfl ?_ ?_;rotate_left
    ·go_simp
     rfl
    refine hK.out _ _ ?_;clear hK K;refine y3x (by kernel_rfl) ?_;go_wp2_with fail
    go_roundw
    case rel=>exact ⟨i+1,⟨by omega⟩,⟨y1b K1.out (by show w.heap.size≠w1.heap.size+1;omega) _⟩,⟨y1b K2.out (by show w.heap.size+1≠w1.heap.size+1;omega) _⟩,⟨y1b K3.out (by show w1.heap.size≠w1.heap.size+1;omega) _⟩,⟨by rw [HPL.out];exact y0y K4.out 1 _ rfl⟩,⟨(Below.heap_setCell _ _ _ _ (by show w1.heap.size+1+1≠w1.heap.size+1;omega)).trans KI.out⟩,⟨KB.out.setCell (by show w.heap.size≤w1.heap.size+1;omega) _⟩⟩
    case measure =>
     rw [hip];have hkp:((w2.setCell ⟨w1.heap.size+1,1,none⟩ (.int .i64 (Go.bits .or .i64 q2 (wrap64 (2 ^ i))))).drew).iterPos (w1.heap.size+1+1)=i+1:=iterPos_of ((Below.heap_setCell _ _ _ _ (by show w1.heap.size+1+1≠w1.heap.size+1;omega)).trans KI.out)
     first|(rw [hkp];omega)|(have e:=hkp;simp only [World.iterPos] at e ⊢;omega)
   ·skip
    have hnx:=fun ty=>run_next_ascii_at (P:=Tra.prog) wr (w1.heap.size+1+1) s i ty HI.out hlt (by rw [hch];decide)
    rw [hch] at hnx;have hnx':∀ ty,(Instr.next (.pointer (some ⟨w1.heap.size+1+1,0,none⟩)) true ty).run Tra.prog wr=.ok (.tuple #[.bool true,.int .i64 (i:Int),.int .i32 46]) (wr.iterAt (w1.heap.size+1+1) s (i+1)):=hnx;have HPL:=As0.mk (show y1g s (i+1)=(q1,q2) from by
     have hg:s.get! i=46:=by rw [← hch];simp [ByteArray.get!,getElem!_pos,hlt];rfl
     rw [y1g,hg,hq];rfl)
    clear hnx hch;have J1:=As0.mk ((y1d wr (w1.heap.size+1+1) s (i+1) (show w.heap.size≠w1.heap.size+1+1 by omega)).trans H1.out);have J2:=As0.mk ((y1d wr (w1.heap.size+1+1) s (i+1) (show w.heap.size+1≠w1.heap.size+1+1 by omega)).trans H2.out);have J3:=As0.mk ((y1d wr (w1.heap.size+1+1) s (i+1) (show w1.heap.size≠w1.heap.size+1+1 by omega)).trans H3.out);have J4:=As0.mk ((y1d wr (w1.heap.size+1+1) s (i+1) (show w1.heap.size+1≠w1.heap.size+1+1 by omega)).trans H4.out);have JI:=As0.mk (iterAt_heap wr (w1.heap.size+1+1) s i (i+1) HI.out);have JB:=As0.mk (y5p HB.out (show w.heap.size≤w1.heap.size+1+1 by omega) s (i+1));have hip:=iterPos_of HI.out;have hjp:=iterPos_of JI.out;clear H1 H2 H3 H4 HI HB;generalize wr.iterAt (w1.heap.size+1+1) s (i+1)=w2 at J1 J2 J3 J4 JI JB hjp hnx';go_wp2_with fail
    go_roundw
    case rel=>exact ⟨i+1,⟨by omega⟩,J1,J2,J3,⟨by rw [HPL.out];exact J4.out⟩,JI,JB⟩
    case measure=>rw [hip,hjp];omega
  ·have hie:i=s.size:=by omega
   have hnx:=fun ty=>run_next_end_at (P:=Tra.prog) wr (w1.heap.size+1+1) s i ty HI.out hlt
   rw [hie] at H4;go_wp2_with fail
   obtain ⟨⟨q1,q2⟩,hq⟩:∃ q,y1g s s.size=q:=⟨_,rfl⟩
   rw [hq] at H4;have HQ:=As0.mk hq;clear hq hnx;have K1:=As0.mk (y0r H1.out (y02 (Below.refl _ _)));have K2:=As0.mk (y0r H2.out (y02 (Below.refl _ _)));have K3:=As0.mk (y0r H3.out (y02 (Below.refl _ _)));have K4:=As0.mk (y0r H4.out (y02 (Below.refl _ _)));have KB:=As0.mk (y02 HB.out);clear H1 H2 H3 H4 HI HB;refine y2d (n:=5) (S:=fun w'=>(w'.cell? ⟨w1.heap.size,0,none⟩=some (.int .i64 m)∧w'.cell? ⟨w1.heap.size,1,none⟩=some (.slice A l.length c))∧w'.cell? ⟨w1.heap.size+1,0,none⟩=some (.int .i64 q1)∧w'.cell? ⟨w1.heap.size+1,1,none⟩=some (.int .i64 q2)) (ds:=[3,4]) #[false,false,false,false,false] (by kernel_rfl) rfl rfl ⟨⟨(y07 K3.out 0).trans rfl,(y07 K3.out 1).trans rfl⟩,(y07 K4.out 0).trans rfl,(y07 K4.out 1).trans rfl⟩ (fun hHeld=>?_);generalize wr.drew=w3 at K1 K2 K3 K4 KB hHeld ⊢;refine y1l (i:=0) (N:=some 58) (v:=?_) (a':=?_) #[true,false,false,false,false] rfl rfl (by kernel_rfl) (fun _ _ _ h=>h) (Or.inl ⟨by rfl,?_⟩) hHeld ?_ ?_;rotate_left
   ·rintro w' ⟨⟨s0,s1⟩,s2,s3⟩
    go_simp
    with_reducible rfl
   rotate_left
   ·simp only [Act.put,List.setIfInBounds_toArray,List.set_cons_zero,List.set_cons_succ,y0a,y0b]
    rfl
   refine y1l (i:=1) (N:=some 59) (v:=?_) (a':=?_) #[true,true,false,false,false] rfl rfl (by kernel_rfl) (fun _ _ _ h=>h) (Or.inl ⟨by rfl,?_⟩) hHeld ?_ ?_;rotate_left
   ·rintro w' ⟨⟨s0,s1⟩,s2,s3⟩
    go_simp
    with_reducible rfl
   rotate_left
   ·simp only [Act.put,List.setIfInBounds_toArray,List.set_cons_zero,List.set_cons_succ,y0a,y0b]
    rfl
   have hz0:=y09 K1.out 0;have hz1:=y09 K1.out 1;have hx0:=y07 K1.out 0;have hx1:=y07 K1.out 1;simp only [List.getElem?_toArray,List.getElem?_cons_zero,List.getElem?_cons_succ] at hx0 hx1;refine one_ (i:=2) (N:=none) #[true,true,true,false,false] rfl rfl (by kernel_rfl) (by decide) (fun K hK=>?_);refine y5w (w1:=?_) (by rfl) rfl ?_ ?_;rotate_left
   ·go_simp
    rfl
   have L1:=As0.mk (y0y (y0y K1.out 0 (.int .i64 m) rfl) 1 (.slice A l.length c) rfl);have L2:=As0.mk (y1b (y1b K2.out (by show w.heap.size+1≠w.heap.size;omega) (p:=⟨w.heap.size,0,none⟩) (.int .i64 m)) (by show w.heap.size+1≠w.heap.size;omega) (p:=⟨w.heap.size,1,none⟩) (.slice A l.length c));have L3:=As0.mk (y1b (y1b K3.out (by show w1.heap.size≠w.heap.size;omega) (p:=⟨w.heap.size,0,none⟩) (.int .i64 m)) (by show w1.heap.size≠w.heap.size;omega) (p:=⟨w.heap.size,1,none⟩) (.slice A l.length c));have L4:=As0.mk (y1b (y1b K4.out (by show w1.heap.size+1≠w.heap.size;omega) (p:=⟨w.heap.size,0,none⟩) (.int .i64 m)) (by show w1.heap.size+1≠w.heap.size;omega) (p:=⟨w.heap.size,1,none⟩) (.slice A l.length c));have LB:=As0.mk (show Below w.heap.size w ((w3.setCell ⟨w.heap.size,0,none⟩ (.int .i64 m)).setCell ⟨w.heap.size,1,none⟩ (.slice A l.length c)) from (KB.out.setCell (zLe _) _).setCell (zLe _) _);clear hz0 hz1 hx0 hx1 K1 K2 K3 K4 KB hHeld;generalize (w3.setCell ⟨w.heap.size,0,none⟩ (.int .i64 m)).setCell ⟨w.heap.size,1,none⟩ (.slice A l.length c)=w4 at L1 L2 L3 L4 LB ⊢;refine hK.out _ _ ⟨⟨(y07 L3.out 0).trans rfl,(y07 L3.out 1).trans rfl⟩,(y07 L4.out 0).trans rfl,(y07 L4.out 1).trans rfl⟩ (fun hHeld=>?_);clear hK K;have hz0:=y09 L2.out 0;have hz1:=y09 L2.out 1;have hx0:=y07 L2.out 0;have hx1:=y07 L2.out 1;simp only [List.getElem?_toArray,List.getElem?_cons_zero,List.getElem?_cons_succ] at hx0 hx1;refine y7h (i:=3) (N:=none) #[true,true,true,true,false] rfl rfl (by kernel_rfl) (by decide) (fun K hK=>?_);refine y5w (w1:=?_) (by rfl) rfl ?_ ?_;rotate_left
   ·go_simp
    rfl
   refine hK.out _ _ ?_;clear hK K;refine y7h (i:=4) (N:=some 8) #[true,true,true,true,true] rfl rfl (by kernel_rfl) (by decide) (fun K hK=>?_);refine yf0 (w1:=?_) (v:=?_) (by rfl) rfl ?_ ?_;rotate_left 2
   ·go_simp
    constructor
    ·rfl
    ·rfl
   refine hK.out _ _ ?_;clear hK K;refine y43 (a':=?_) ?_ ?_;rotate_left
   ·show Act.put _ (some 8) _=_
    simp only [Act.put,List.setIfInBounds_toArray,List.set_cons_zero,List.set_cons_succ,y0a,y0b];rfl
   refine y3x (by kernel_rfl) ?_
   try go_wp2
   refine bodyPost_ret (y35 (rs:=[.cell 6 100,.cell 7 102,.tmp 8]) rfl (by simp) (.cell w.heap.size 100 #[.int .i64 m,.slice A l.length c] (0,0) _ rfl (y1b (y1b L1.out (by show w.heap.size≠w.heap.size+1;omega) _) (by show w.heap.size≠w.heap.size+1;omega) _) Tra.underlying100 rfl (by kernel_rfl) (.cell (w.heap.size+1) 102 #[.int .i64 q1,.int .i64 q2] (0,0) _ rfl (y0y (y0y L2.out 0 _ rfl) 1 _ rfl) Tra.underlying102 rfl (by kernel_rfl) (.tmp .nil)))) rfl ?_;exact ⟨by rw [HQ.out];rfl,(LB.out.setCell (by show w.heap.size≤w.heap.size+1;omega) _).setCell (by show w.heap.size≤w.heap.size+1;omega) _⟩
end Go.Proofs.Ytfgcijifdbgpaaa.Tb
namespace Go.Proofs.Ytfgcijifdbgpaaa.Tb
open Go.RowKit Go.Proofs.YtfgcijifdbgpaaaW.Wd Go.Proofs.YtfgcijifdbgpaaaW.La Go.Proofs.YtfgcijifdbgpaaaW.Mo
section
attribute [local go_sem] y0x y0v y16 y15 y0q y0p y0w y0u
theorem y1u {w w':World} (h:Drawn0 w w'):Below w.heap.size w w':=by
 obtain ⟨nd,rfl⟩:=h;exact y00 (Below.refl _ _) nd
theorem asked_w (m:Int) (A:Option Addr) (c:Nat) (l:List Int) (s:ByteArray) (w:World) (hr:Kd.C (Kd.int .i64) w A l.length l) (hc:l.length≤c) (hF:FieldOK m l) (hS:y9a m s) :
  Calls Tra.prog 57 #[.int .i64 m,.slice A l.length c,.string s,.string ⟨#[119]⟩] w fun e w'=>e=.returned (.tuple #[.agg #[.int .i64 m,.slice A l.length c],.agg #[.int .i64 (y1g s s.size).1,.int .i64 (y1g s s.size).2,.int .i64 1],.int .i64 0])∧Below w.heap.size w w':=by
 have hu36:=Tra.underlying100;have hu38:=Tra.underlying102;have hu40:=Tra.underlying104;have hu9:=Tra.underlying9;obtain ⟨⟨q1,q2⟩,hq⟩:∃ q,y1g s s.size=q:=⟨_,rfl⟩
 have hB2:=y01 (y01 (Below.refl w.heap.size w) (.cells #[.int .i64 0,.slice none 0 0] 100)) (.cells #[.int .i64 0,.int .i64 0,.int .i64 0] 104);have HB2:=As0.mk hB2;have HR:=yaf m A c l s _ (Kd.C_below hr hB2) hc hF hS;rw [hq] at HR ⊢;have HR:=As0.mk HR;have hb1:((w.alloc (.cells #[.int .i64 0,.slice none 0 0] 100)).alloc (.cells #[.int .i64 0,.int .i64 0,.int .i64 0] 104)).heap[w.heap.size]?=some (.cells #[.int .i64 0,.slice none 0 0] 100 (0,0)):=y0d (heap_alloc_new w (.cells #[.int .i64 0,.slice none 0 0] 100)) _;have hb2:((w.alloc (.cells #[.int .i64 0,.slice none 0 0] 100)).alloc (.cells #[.int .i64 0,.int .i64 0,.int .i64 0] 104)).heap[w.heap.size+1]?=some (.cells #[.int .i64 0,.int .i64 0,.int .i64 0] 104 (0,0)):=y3o _ (asize _ _);have HL1:=As0.mk (show Q.ambush_letter.f 1=some ⟨#[119]⟩ from by decide +kernel);have HL2:=As0.mk (show Q.ambush_letter.f 2=some ⟨#[100]⟩ from by decide +kernel);clear hr hF hS hB2 hq;go_enter Tra.func57,Tra.ntmps57
 go_wp2_with (first|(go_at_call 69;with_reducible refine HR.out.mono ?_;rintro e w1 ⟨rfl,hbr⟩;have HB3:=As0.mk (y04 HB2.out hbr);have HBb1:=As0.mk (y0r hb1 hbr);have HBb2:=As0.mk (y0r hb2 hbr);clear hbr hb1 hb2)|fail)
 have hs1:=HBb1.out;have h2s:=y1i HBb2.out;have hw1:w.heap.size+2≤w1.heap.size:=by omega
 clear hs1 h2s;have G1:=y0d (y0d HBb1.out (.cells #[.int .i64 m,.slice A l.length c] 100)) (.cells #[.int .i64 q1,.int .i64 q2] 102);have G2:=y0d (y0d HBb2.out (.cells #[.int .i64 m,.slice A l.length c] 100)) (.cells #[.int .i64 q1,.int .i64 q2] 102);have G3:=y0d (heap_alloc_new w1 (.cells #[.int .i64 m,.slice A l.length c] 100)) (.cells #[.int .i64 q1,.int .i64 q2] 102);have G4:=y3o (w:=w1.alloc (.cells #[.int .i64 m,.slice A l.length c] 100)) (.cells #[.int .i64 q1,.int .i64 q2] 102) (asize _ _);have GB:=y01 (y01 HB3.out (.cells #[.int .i64 m,.slice A l.length c] 100)) (.cells #[.int .i64 q1,.int .i64 q2] 102);clear HBb1 HBb2 HB3;refine (Q.ambush_letter.calls 1 _ _ HL1.out).mono ?_
 rintro e w2 ⟨rfl,hdr⟩
 have hbw:=y1u hdr;have K11:=As0.mk (y0r G1 hbw);have K21:=As0.mk (y0r G2 hbw);have K31:=As0.mk (y0r G3 hbw);have K41:=As0.mk (y0r G4 hbw);have KB1:=As0.mk (y04 GB hbw);clear hbw hdr;go_wp2_with fail
 have K1:=As0.mk (y0r K11.out (y02 (Below.refl _ _)));have K2:=As0.mk (y0r K21.out (y02 (Below.refl _ _)));have K3:=As0.mk (y0r K31.out (y02 (Below.refl _ _)));have K4:=As0.mk (y0r K41.out (y02 (Below.refl _ _)));have KB:=As0.mk (y02 KB1.out);clear K11 K21 K31 K41 KB1;refine y2d (n:=6) (S:=fun w'=>(w'.cell? ⟨w1.heap.size,0,none⟩=some (.int .i64 m)∧w'.cell? ⟨w1.heap.size,1,none⟩=some (.slice A l.length c))∧w'.cell? ⟨w1.heap.size+1,0,none⟩=some (.int .i64 q1)∧w'.cell? ⟨w1.heap.size+1,1,none⟩=some (.int .i64 q2)) (ds:=[4,5]) #[false,false,false,false,false,false] (by kernel_rfl) rfl rfl ⟨⟨(y07 K3.out 0).trans rfl,(y07 K3.out 1).trans rfl⟩,(y07 K4.out 0).trans rfl,(y07 K4.out 1).trans rfl⟩ (fun hHeld=>?_);generalize w2.drew=w9 at K1 K2 K3 K4 KB hHeld ⊢;refine y1l (i:=0) (N:=some 32) (v:=?_) (a':=?_) #[true,false,false,false,false,false] rfl rfl (by kernel_rfl) (fun _ _ _ h=>h) (Or.inl ⟨by rfl,?_⟩) hHeld ?_ ?_;rotate_left
 ·rintro w' ⟨⟨s0,s1⟩,s2,s3⟩
  go_simp
  with_reducible rfl
 rotate_left
 ·simp only [Act.put,List.setIfInBounds_toArray,List.set_cons_zero,List.set_cons_succ,y0a,y0b]
  rfl
 refine y1l (i:=1) (N:=some 33) (v:=?_) (a':=?_) #[true,true,false,false,false,false] rfl rfl (by kernel_rfl) (fun _ _ _ h=>h) (Or.inl ⟨by rfl,?_⟩) hHeld ?_ ?_;rotate_left
 ·rintro w' ⟨⟨s0,s1⟩,s2,s3⟩
  go_simp
  with_reducible rfl
 rotate_left
 ·simp only [Act.put,List.setIfInBounds_toArray,List.set_cons_zero,List.set_cons_succ,y0a,y0b]
  rfl
 refine y0e (i:=2) (N:=some 34) (v:=?_) (a':=?_) #[true,true,true,false,false,false] rfl rfl (by kernel_rfl) (fun _ _ _ h=>h) (Or.inl ⟨by rfl,?_⟩) ?_ ?_;rotate_left
 ·intro w'
  go_simp
  with_reducible rfl
 rotate_left
 ·simp only [Act.put,List.setIfInBounds_toArray,List.set_cons_zero,List.set_cons_succ,y0a,y0b]
  rfl
 have hz0:=y09 K1.out 0;have hz1:=y09 K1.out 1;have hx0:=y07 K1.out 0;have hx1:=y07 K1.out 1;simp only [List.getElem?_toArray,List.getElem?_cons_zero,List.getElem?_cons_succ] at hx0 hx1;refine one_ (i:=3) (N:=none) #[true,true,true,true,false,false] rfl rfl (by kernel_rfl) (by decide) (fun K hK=>?_);refine y5w (w1:=?_) (by rfl) rfl ?_ ?_;rotate_left
 ·go_simp
  rfl
 have L1:=As0.mk (y0y (y0y K1.out 0 (.int .i64 m) rfl) 1 (.slice A l.length c) rfl);have L2:=As0.mk (y1b (y1b K2.out (by show w.heap.size+1≠w.heap.size;omega) (p:=⟨w.heap.size,0,none⟩) (.int .i64 m)) (by show w.heap.size+1≠w.heap.size;omega) (p:=⟨w.heap.size,1,none⟩) (.slice A l.length c));have L3:=As0.mk (y1b (y1b K3.out (by show w1.heap.size≠w.heap.size;omega) (p:=⟨w.heap.size,0,none⟩) (.int .i64 m)) (by show w1.heap.size≠w.heap.size;omega) (p:=⟨w.heap.size,1,none⟩) (.slice A l.length c));have L4:=As0.mk (y1b (y1b K4.out (by show w1.heap.size+1≠w.heap.size;omega) (p:=⟨w.heap.size,0,none⟩) (.int .i64 m)) (by show w1.heap.size+1≠w.heap.size;omega) (p:=⟨w.heap.size,1,none⟩) (.slice A l.length c));have LB:=As0.mk (show Below w.heap.size w ((w9.setCell ⟨w.heap.size,0,none⟩ (.int .i64 m)).setCell ⟨w.heap.size,1,none⟩ (.slice A l.length c)) from (KB.out.setCell (zLe _) _).setCell (zLe _) _);clear hz0 hz1 hx0 hx1 K1 K2 K3 K4 KB hHeld;generalize (w9.setCell ⟨w.heap.size,0,none⟩ (.int .i64 m)).setCell ⟨w.heap.size,1,none⟩ (.slice A l.length c)=w10 at L1 L2 L3 L4 LB ⊢;refine hK.out _ _ ⟨⟨(y07 L3.out 0).trans rfl,(y07 L3.out 1).trans rfl⟩,(y07 L4.out 0).trans rfl,(y07 L4.out 1).trans rfl⟩ (fun hHeld=>?_);clear hK K;have hz0:=y09 L2.out 0;have hz1:=y09 L2.out 1;have hz2:=y09 L2.out 2;have hx0:=y07 L2.out 0;have hx1:=y07 L2.out 1;have hx2:=y07 L2.out 2;simp only [List.getElem?_toArray,List.getElem?_cons_zero,List.getElem?_cons_succ] at hx0 hx1 hx2;refine y7h (i:=4) (N:=none) #[true,true,true,true,true,false] rfl rfl (by kernel_rfl) (by decide) (fun K hK=>?_);refine y5w (w1:=?_) (by rfl) rfl ?_ ?_;rotate_left
 ·go_simp
  rfl
 refine hK.out _ _ ?_;clear hK K;refine y7h (i:=5) (N:=some 10) #[true,true,true,true,true,true] rfl rfl (by kernel_rfl) (by decide) (fun K hK=>?_);refine yf0 (w1:=?_) (v:=?_) (by rfl) rfl ?_ ?_;rotate_left 2
 ·go_simp
  constructor
  ·rfl
  ·rfl
 refine hK.out _ _ ?_;clear hK K;refine y43 (a':=?_) ?_ ?_;rotate_left
 ·show Act.put _ (some 10) _=_
  simp only [Act.put,List.setIfInBounds_toArray,List.set_cons_zero,List.set_cons_succ,y0a,y0b];rfl
 refine y3x (by kernel_rfl) ?_
 try go_wp2
 refine bodyPost_ret (y35 (rs:=[.cell 8 100,.cell 9 104,.tmp 10]) rfl (by simp) (.cell w.heap.size 100 #[.int .i64 m,.slice A l.length c] (0,0) _ rfl (y1b (y1b (y1b L1.out (by show w.heap.size≠w.heap.size+1;omega) _) (by show w.heap.size≠w.heap.size+1;omega) _) (by show w.heap.size≠w.heap.size+1;omega) _) Tra.underlying100 rfl (by kernel_rfl) (.cell (w.heap.size+1) 104 #[.int .i64 q1,.int .i64 q2,.int .i64 1] (0,0) _ rfl (y0y (y0y (y0y L2.out 0 _ rfl) 1 _ rfl) 2 _ rfl) Tra.underlying104 rfl (by kernel_rfl) (.tmp .nil)))) rfl ?_;exact ⟨rfl,((LB.out.setCell (by show w.heap.size≤w.heap.size+1;omega) _).setCell (by show w.heap.size≤w.heap.size+1;omega) _).setCell (by show w.heap.size≤w.heap.size+1;omega) _⟩
end
section
attribute [local go_sem] y0x y0v y16 y15 y0q y0p y0w y0u
def fre (m u:Int):Int:=Go.bits .andNot .i64 (wrap64 ((shl .i64 1 m) - 1)) u
def orI (a b:Int):Int:=Go.bits .or .i64 a b
def bitI (x:Int) (i:Nat):Bool:=Go.bits .and .i64 (x / 2 ^ i) 1 == 1
def pt (i:Nat):Int:=shl .i64 1 (i:Int)
def valK:Nat->Int->List Int->Int->Int->Int->Int
 |0,_,_,_,_,_=>0
 |k+1,m,l,a,b,t=>if wonL l a then 1 else if fre m (orI a b)=0 then 2 else
   if (List.range m.toNat).any (fun i=>bitI (fre m (orI a b)) i && ((if t=1 then valK k m l (orI a (pt i)) b 2 else valK k m l a (orI b (pt i)) 1) == t)) then t else 3 - t
def val (m:Int) (l:List Int) (a b t:Int):Int:=valK 6 m l a b t
def cntF (m u:Int):Nat:=((List.range 5).filter (fun i=>bitI (fre m u) i)).length
theorem cnt_le (m u:Int):cntF m u≤5:=Nat.le_trans (List.length_filter_le _ _) (by simp)
theorem or_fin:∀ (a b:Fin 32),0≤orI a.val b.val∧orI a.val b.val<32:=by decide +kernel
theorem pt_fin:∀ (i:Fin 5),0≤pt i.val∧pt i.val<32:=by decide +kernel
theorem yck:∀ (a b:Fin 32) (i:Fin 5),orI (orI a.val (pt i.val)) b.val=orI (orI a.val b.val) (pt i.val)∧orI a.val (orI b.val (pt i.val))=orI (orI a.val b.val) (pt i.val):=by decide +kernel
theorem dec_fin:∀ (m:Fin 5) (u:Fin 32) (i:Fin 5),bitI (fre ((m.val:Int)+1) u.val) i.val=true->cntF ((m.val:Int)+1) (orI u.val (pt i.val))<cntF ((m.val:Int)+1) u.val:=by decide +kernel
theorem ygx:∀ (m:Fin 5) (u:Fin 32),0≤fre ((m.val:Int)+1) u.val∧fre ((m.val:Int)+1) u.val<32:=by decide +kernel
structure Dom (a:Int):Prop where
 lo:0≤a
 hi:a<32
theorem Dom.fin {a:Int} (h:Dom a):∃ x:Fin 32,a=(x.val:Int):=⟨⟨a.toNat,by have:=h.lo;have:=h.hi;omega⟩,by have:=h.lo;simp;omega⟩
theorem Dom.or {a b:Int} (ha:Dom a) (hb:Dom b):Dom (orI a b):=by
 obtain ⟨x,rfl⟩:=ha.fin;obtain ⟨y,rfl⟩:=hb.fin;exact ⟨(or_fin x y).1,(or_fin x y).2⟩
theorem Dom.pt {i:Nat} (h:i<5):Dom (pt i):=⟨(pt_fin ⟨i,h⟩).1,(pt_fin ⟨i,h⟩).2⟩
theorem swap_l {a b:Int} (ha:Dom a) (hb:Dom b) {i:Nat} (h:i<5):orI (orI a (Tb.pt i)) b=orI (orI a b) (Tb.pt i):=by
 obtain ⟨x,rfl⟩:=ha.fin;obtain ⟨y,rfl⟩:=hb.fin;exact (yck x y ⟨i,h⟩).1
theorem swap_r {a b:Int} (ha:Dom a) (hb:Dom b) {i:Nat} (h:i<5):orI a (orI b (Tb.pt i))=orI (orI a b) (Tb.pt i):=by
 obtain ⟨x,rfl⟩:=ha.fin;obtain ⟨y,rfl⟩:=hb.fin;exact (yck x y ⟨i,h⟩).2
theorem yh5 {m u:Int} (h1:1≤m) (h5:m≤5) (hu:Dom u) {i:Nat} (h:i<5) (hb:bitI (fre m u) i=true):cntF m (orI u (Tb.pt i))<cntF m u:=by
 obtain ⟨x,rfl⟩:=hu.fin;obtain ⟨y,rfl⟩:∃ y:Fin 5,m=(y.val:Int)+1:=⟨⟨(m - 1).toNat,by omega⟩,by simp;omega⟩
 exact dec_fin y x ⟨i,h⟩ hb
theorem fre_dom {m u:Int} (h1:1≤m) (h5:m≤5) (hu:Dom u):Dom (fre m u):=by
 obtain ⟨x,rfl⟩:=hu.fin;obtain ⟨y,rfl⟩:∃ y:Fin 5,m=(y.val:Int)+1:=⟨⟨(m - 1).toNat,by omega⟩,by simp;omega⟩
 exact ⟨(ygx y x).1,(ygx y x).2⟩
theorem yeq {α:Type} {l:List α} {f g:α->Bool} (h:∀ x ∈ l,f x=g x):l.any f=l.any g:=by
 induction l with
 |nil=>rfl
 |cons x l ih=>rw [List.any_cons,List.any_cons,h x (List.mem_cons_self ..),ih (fun y hy=>h y (List.mem_cons_of_mem _ hy))]
theorem y8c {m:Int} (h1:1≤m) (h5:m≤5) (l:List Int):∀ (k:Nat) (a b t:Int),Dom a->Dom b->cntF m (orI a b)<k->valK (k+1) m l a b t=valK k m l a b t
 |0,_,_,_,_,_,h=>absurd h (Nat.not_lt_zero _)
 |k+1,a,b,t,ha,hb,hk=>by
  rw [valK,valK.eq_def (k+1)];show _=(if wonL l a then 1 else if fre m (orI a b)=0 then 2 else _)
  have key:(List.range m.toNat).any (fun i=>bitI (fre m (orI a b)) i && ((if t=1 then valK (k+1) m l (orI a (pt i)) b 2 else valK (k+1) m l a (orI b (pt i)) 1) == t))=(List.range m.toNat).any (fun i=>bitI (fre m (orI a b)) i && ((if t=1 then valK k m l (orI a (pt i)) b 2 else valK k m l a (orI b (pt i)) 1) == t)):=by
   refine yeq fun i hi=>?_
   have hi5:i<5:=by have:=List.mem_range.1 hi;omega
   cases hbit:bitI (fre m (orI a b)) i with
   |false=>rfl
   |true =>
    have hd:=yh5 h1 h5 (ha.or hb) hi5 hbit;rw [y8c h1 h5 l k (orI a (pt i)) b 2 (ha.or (Dom.pt hi5)) hb (by rw [swap_l ha hb hi5];omega),y8c h1 h5 l k a (orI b (pt i)) 1 ha (hb.or (Dom.pt hi5)) (by rw [swap_r ha hb hi5];omega)]
  rw [key]
theorem val_eq {m:Int} (h1:1≤m) (h5:m≤5) (l:List Int) {a b:Int} (t:Int) (ha:Dom a) (hb:Dom b) :
  val m l a b t=if wonL l a then 1 else if fre m (orI a b)=0 then 2 else
   if (List.range m.toNat).any (fun i=>bitI (fre m (orI a b)) i && ((if t=1 then val m l (orI a (pt i)) b 2 else val m l a (orI b (pt i)) 1) == t)) then t else 3 - t:=by
 unfold val;rw [← y8c h1 h5 l 6 a b t ha hb (by have:=cnt_le m (orI a b);omega)];rfl
theorem val_12 {m:Int} (h1:1≤m) (h5:m≤5) (l:List Int) {a b t:Int} (ht:t=1∨t=2) (ha:Dom a) (hb:Dom b):val m l a b t=1∨val m l a b t=2:=by
 rw [val_eq h1 h5 l t ha hb];split
 ·exact .inl rfl
 ·split
  ·exact .inr rfl
  ·split<;>omega
def kv (a b t:Int):Value:=.agg #[.int .i64 a,.int .i64 b,.int .i64 t]
theorem kv_inj {a b t a' b' t':Int} (h:kv a b t=kv a' b' t'):a=a'∧b=b'∧t=t':=by
 unfold kv at h;injection h with h
 have h2:[Value.int .i64 a,.int .i64 b,.int .i64 t]=[.int .i64 a',.int .i64 b',.int .i64 t']:=by simpa using congrArg Array.toList h
 simp only [List.cons.injEq,Value.int.injEq,true_and,and_true] at h2;exact h2
theorem laidOutP:laidOutB Tra.prog=true:=by kernel_rfl
theorem kKeyed:Go.Maps.Keyed Tra.prog 104 :=
 Go.Maps.Keyed.of_law (deep_law_laid laidOutP (m:=3) (by decide) (zDo (by kernel_rfl)) (by kernel_rfl) (by kernel_rfl))
theorem wf64 {x:Int} (h:0≤x∧x≤100000):(Lit.int .i64 x).wf=true:=by
 have h1:IntKind.i64.min = -9223372036854775808:=by decide
 have h2:IntKind.i64.max=9223372036854775807:=by decide
 simp only [Lit.wf,h1,h2,Bool.and_eq_true,decide_eq_true_eq];omega
theorem ybz {x:Int} (h:0≤x∧x≤100000) (d:Nat):Tra.prog.keyLits (d+1) 3 [.int .i64 x]=some [.int .i64 x]:=by
 simp [Program.keyLits,Tra.underlying3,wf64 h]
theorem key_two {a b:Int} (ha:0≤a∧a≤100000) (hb:0≤b∧b≤100000) (d:Nat):Tra.prog.keyLits (d+2) 102 [.int .i64 a,.int .i64 b]=some [.int .i64 a,.int .i64 b]:=by
 have ka:=ybz ha d;have kb:=ybz hb d;have c3:Tra.prog.cellsOf 3=1:=by kernel_rfl
 have c38:Tra.prog.cellsOf 102=2:=by kernel_rfl
 unfold Program.keyLits;simp [Tra.underlying102,c3,c38,ka,kb,List.range_succ]
theorem kv_key {a b t:Int} (ha:0≤a∧a≤100000) (hb:0≤b∧b≤100000) (ht:0≤t∧t≤100000):∃ l,keyOf Tra.prog 104 (kv a b t)=some l:=by
 have hk:Tra.prog.keyType 104=true:=by kernel_rfl
 have hfo:(kv a b t).formed Tra.prog 104=true:=by kernel_rfl
 obtain ⟨n,hs⟩:∃ n,Tra.prog.types.size=n+2:=⟨Tra.prog.types.size - 2,by kernel_rfl⟩
 have c38:Tra.prog.cellsOf 102=2:=by kernel_rfl
 have c3:Tra.prog.cellsOf 3=1:=by kernel_rfl
 have c40:Tra.prog.cellsOf 104=3:=by kernel_rfl
 have kt:=fun D=>ybz ht D
 have k2:=fun D=>key_two ha hb D
 have hl:Tra.prog.keyLits (n+2+1) 104 (kv a b t).cells.toList=some [.int .i64 a,.int .i64 b,.int .i64 t]:=by
  show Tra.prog.keyLits (n+2+1) 104 [.int .i64 a,.int .i64 b,.int .i64 t]=_;unfold Program.keyLits;simp [Tra.underlying104,c38,c3,c40,List.range_succ,kt,k2]
 refine ⟨.string (keyBytes [.int .i64 a,.int .i64 b,.int .i64 t]),?_⟩;unfold keyOf;rw [Tra.underlying104];simp only [hk,hfo,Bool.and_self,if_true,hs,hl,Option.map_some]
structure Turn (a b t:Int):Prop where
 a:Dom a
 b:Dom b
 t:t=1∨t=2
theorem Turn.key {a b t:Int} (h:Turn a b t):∃ l,keyOf Tra.prog 104 (kv a b t)=some l :=
 kv_key ⟨h.a.lo,by have:=h.a.hi;omega⟩ ⟨h.b.lo,by have:=h.b.hi;omega⟩ (by rcases h.t with h|h<;>omega)
def Memo (m:Int) (l:List Int) (w:World) (g:Nat):Prop :=
 ∃ es clock,w.heap[g]?=some (.map es clock)∧∀ e ∈ es.toList,∃ a b t:Int,Turn a b t∧e.key=kv a b t∧e.val=.int .i64 (val m l a b t)
theorem Memo.made (m:Int) (l:List Int) (w:World):Memo m l (w.alloc (.map #[] 0)) w.heap.size:=⟨#[],0,heap_alloc_new _ _,by simp⟩
section
variable {m:Int} {l:List Int}
theorem Memo.lt {w:World} {g:Nat} (h:Memo m l w g):g<w.heap.size:=by
 obtain ⟨es,clock,hb,_⟩:=h;exact y1i hb
theorem Memo.move {w w1:World} {g:Nat} (h:Memo m l w g) (hm:w1.heap[g]?=w.heap[g]?):Memo m l w1 g:=by
 obtain ⟨es,clock,hb,r⟩:=h;exact ⟨es,clock,hm.trans hb,r⟩
theorem Memo.below {w w1:World} {g:Nat} (h:Memo m l w g) (hb:Below w.heap.size w w1):Memo m l w1 g:=h.move (hb.block _ h.lt)
theorem Memo.keys {es:Array MapEntry} (r:∀ e ∈ es.toList,∃ a b t:Int,Turn a b t∧e.key=kv a b t∧e.val=.int .i64 (val m l a b t)):∀ e ∈ es.toList,∃ q,keyOf Tra.prog 104 e.key=some q:=by
 intro e he;obtain ⟨a,b,t,h,hk,_⟩:=r e he;rw [hk];exact h.key
theorem Memo.lookup {w:World} {g:Nat} (h:Memo m l w g) {a b t:Int} (hx:Turn a b t) :
  (Instr.lookup 109 (.map (some g)) (kv a b t) false).run Tra.prog w=.ok (.int .i64 0) w ∨
  (Instr.lookup 109 (.map (some g)) (kv a b t) false).run Tra.prog w=.ok (.int .i64 (val m l a b t)) w:=by
 obtain ⟨es,clock,hb,r⟩:=h;obtain ⟨q,hl⟩:=hx.key;have hz:(zeroValue 3).run Tra.prog w=.ok (.int .i64 0) w:=by kernel_rfl
 have K:=kKeyed;rcases K.find w hl es.toList (Memo.keys r) with ⟨h1,_⟩|⟨j,e0,h1,h2,h3⟩
 ·left
  simp [Instr.lookup,run_underlying Tra.underlying109,MapKept.run_getObj_map hb,K.check w _ hl,h1,hz,Result.andThen]
 ·right
  obtain ⟨a',b',t',hy,hk,hv'⟩:=r e0 (List.mem_of_getElem? h2);obtain ⟨rfl,rfl,rfl⟩:=kv_inj (hk.symm.trans h3);simp [Instr.lookup,run_underlying Tra.underlying109,MapKept.run_getObj_map hb,K.check w _ hl,h1,hv',Result.andThen]
theorem y9s {w:World} {g:Nat} {o0:Obj} (hb:w.heap[g]?=some o0) (o:Obj):w.grownBy (Go.ChangeMaps.setBlock w g o) (some g) :=
 ⟨rfl,rfl,rfl,by simp [Go.ChangeMaps.setBlock],fun i hi hne=>by
  have:g≠i:=fun e=>hne (by rw [e])
  simp [Go.ChangeMaps.setBlock,Array.getElem?_setIfInBounds,this]⟩
theorem set_at {w:World} {g:Nat} {o0:Obj} (hb:w.heap[g]?=some o0) (o:Obj):(Go.ChangeMaps.setBlock w g o).heap[g]?=some o:=by
 have:=y1i hb;simp [Go.ChangeMaps.setBlock,Array.getElem?_setIfInBounds,this]
theorem yeg {es:Array MapEntry} {j:Nat} {f:MapEntry->MapEntry} {e:MapEntry} (he:e ∈ (es.modify j f).toList):(∃ e0,es.toList[j]?=some e0∧e=f e0)∨e ∈ es.toList:=by
 rw [Array.toList_modify] at he;rcases List.mem_iff_getElem?.1 he with ⟨i,hi⟩
 rw [List.getElem?_modify] at hi;cases hq:es.toList[i]? with
 |none=>rw [hq] at hi;simp at hi
 |some q =>
  rw [hq] at hi
  by_cases hji:j=i
  ·simp [hji] at hi
   exact .inl ⟨q,by rw [hji];exact hq,hi.symm⟩
  ·simp [hji] at hi
   subst hi;exact .inr (List.mem_of_getElem? hq)
theorem Memo.update {w:World} {g:Nat} (h:Memo m l w g) {a b t:Int} (hx:Turn a b t) :
  ∃ w',(Instr.mapUpdate 109 (.map (some g)) (kv a b t) (.int .i64 (val m l a b t))).run Tra.prog w=.ok () w'∧Memo m l w' g∧w.grownBy w' (some g):=by
 obtain ⟨es,clock,hb,r⟩:=h;obtain ⟨q,hl⟩:=hx.key;have K:=kKeyed;rcases K.find w hl es.toList (Memo.keys r) with ⟨h1,_⟩|⟨j,e0,h1,h2,h3⟩
 ·refine ⟨Go.ChangeMaps.setBlock w g (.map (es.push { key:=kv a b t,val:=.int .i64 (val m l a b t),born:=clock }) (clock+1)),?_,⟨_,_,set_at hb _,?_⟩,y9s hb _⟩
  ·simp [Instr.mapUpdate,run_underlying Tra.underlying109,MapKept.run_getObj_map hb,K.check w _ hl,h1,MapKept.run_setObj_map _ hb,Result.andThen,Go.ChangeMaps.setBlock]
  ·intro e he
   simp only [Array.toList_push,List.mem_append,List.mem_singleton] at he;rcases he with he|rfl
   ·exact r e he
   ·exact ⟨a,b,t,hx,rfl,rfl⟩
 ·have hj:es[j]?=some e0:=by simpa using h2
  refine ⟨Go.ChangeMaps.setBlock w g (.map (es.modify j fun e=>{ e with key:=kv a b t,val:=.int .i64 (val m l a b t) }) clock),?_,⟨_,_,set_at hb _,?_⟩,y9s hb _⟩
  ·simp [Instr.mapUpdate,run_underlying Tra.underlying109,MapKept.run_getObj_map hb,K.check w _ hl,h1,hj,h3,K.stays w hl,MapKept.run_setObj_map _ hb,Result.andThen,Go.ChangeMaps.setBlock]
  ·intro e he
   rcases yeg he with ⟨q,_,rfl⟩|he
   ·exact ⟨a,b,t,hx,rfl,rfl⟩
   ·exact r e he
end
theorem yen {w w':World} {g:Nat} (h:w.grownBy w' (some g)) {es:Array MapEntry} {cl:Nat} (hg:w.heap[g]?=some (.map es cl)) {p:Addr} {u:Value} (hp:w.cell? p=some u):w'.cell? p=some u:=by
 have hne:p.block≠g:=by
  intro e;unfold World.cell? at hp;rw [e,hg] at hp;simp at hp
 have hb:=h.block p.block (World.block_lt_of_cell? w p hp) (fun e=>hne (by injection e));exact (World.cell?_of_block (w:=w) hb).trans hp
theorem C_grown {w w':World} {g:Nat} (h:w.grownBy w' (some g)) {m:Int} {l0:List Int} (hm:Memo m l0 w g) {A:Option Addr} {n:Nat} {l:List Int} (hr:Kd.C (Kd.int .i64) w A n l):Kd.C (Kd.int .i64) w' A n l:=by
 obtain ⟨es,cl,hg,_⟩:=hm;refine ⟨hr.1,hr.2.1,fun hn=>?_⟩;obtain ⟨ad,e,hc⟩:=hr.2.2 hn;refine ⟨ad,e,fun j p hj=>?_⟩;obtain ⟨c,hs,hrr,hcell⟩:=hc j p hj;exact ⟨c,hs,hrr,fun i u hu=>yen h hg (hcell i u hu)⟩
theorem blk_grown {w w':World} {g k:Nat} (h:w.grownBy w' (some g)) {m:Int} {l0:List Int} (hm:Memo m l0 w g) {cs:Array Value} {t:TypeId} {z:Nat × Nat} (hk:w.heap[k]?=some (.cells cs t z)):w'.heap[k]?=some (.cells cs t z):=by
 obtain ⟨es,cl,hg,_⟩:=hm;refine (h.block k (y1i hk) (fun e=>?_)).trans hk;injection e with e
 subst e;rw [hg] at hk;cases hk
end
end Go.Proofs.Ytfgcijifdbgpaaa.Tb
namespace Go.Proofs.Ytfgcijifdbgpaaa.Tb
open Go.RowKit Go.Proofs.YtfgcijifdbgpaaaW.Wd Go.Proofs.YtfgcijifdbgpaaaW.La Go.Proofs.YtfgcijifdbgpaaaW.Mo
section
attribute [local go_sem] y0x y0v y16 y15 y0q y0p y0w y0u
def Held (B:Nat) (m:Int) (A:Option Addr) (l:List Int) (c:Nat) (a b t:Int) (w:World):Prop :=
 (w.cell? ⟨B,0,none⟩=some (.int .i64 m)∧w.cell? ⟨B,1,none⟩=some (.slice A l.length c))∧w.cell? ⟨B+1,0,none⟩=some (.int .i64 a)∧w.cell? ⟨B+1,1,none⟩=some (.int .i64 b)∧w.cell? ⟨B+1,2,none⟩=some (.int .i64 t)
structure Box (W:World) (g:Nat) (m:Int) (A:Option Addr) (l:List Int) (c:Nat) (a b t:Int) (w:World):Prop where
 f:w.heap[W.heap.size]?=some (.cells #[.int .i64 m,.slice A l.length c] 100 (0,0))
 t:w.heap[W.heap.size+1]?=some (.cells #[.int .i64 a,.int .i64 b,.int .i64 t] 104 (0,0))
 hm:Memo m l w g
 hr:Kd.C (Kd.int .i64) w A l.length l
 gr:W.grownBy w (some g)
theorem y4k {w w':World} {g:Nat} (h:Below w.heap.size w w'):w.grownBy w' (some g):=⟨h.os,h.tape,h.output,h.size,fun k hk _=>h.block k hk⟩
section
variable {W:World} {g:Nat} {m:Int} {A:Option Addr} {l:List Int} {c:Nat} {a b t:Int} {w w':World}
theorem Box.grown (h:Box W g m A l c a b t w) (hg:w.grownBy w' (some g)) (hm:Memo m l w' g):Box W g m A l c a b t w' :=
 ⟨blk_grown hg h.hm h.f,blk_grown hg h.hm h.t,hm,C_grown hg h.hm h.hr,World.grownBy.trans h.gr hg⟩
theorem Box.below (h:Box W g m A l c a b t w) (hb:Below w.heap.size w w'):Box W g m A l c a b t w':=h.grown (y4k hb) (h.hm.below hb)
theorem Box.c0 (h:Box W g m A l c a b t w):w.cell? ⟨W.heap.size,0,none⟩=some (.int .i64 m):=(y07 h.f 0).trans rfl
theorem Box.c1 (h:Box W g m A l c a b t w):w.cell? ⟨W.heap.size,1,none⟩=some (.slice A l.length c):=(y07 h.f 1).trans rfl
theorem Box.c2 (h:Box W g m A l c a b t w):w.cell? ⟨W.heap.size+1,0,none⟩=some (.int .i64 a):=(y07 h.t 0).trans rfl
theorem Box.c3 (h:Box W g m A l c a b t w):w.cell? ⟨W.heap.size+1,1,none⟩=some (.int .i64 b):=(y07 h.t 1).trans rfl
theorem Box.c4 (h:Box W g m A l c a b t w):w.cell? ⟨W.heap.size+1,2,none⟩=some (.int .i64 t):=(y07 h.t 2).trans rfl
theorem Box.S (h:Box W g m A l c a b t w):Held W.heap.size m A l c a b t w:=⟨⟨h.c0,h.c1⟩,h.c2,h.c3,h.c4⟩
end
def WinC (n:Nat) (m:Int) (l:List Int):Prop:=∀ a b t:Int,Turn a b t->cntF m (orI a b)<n->∀ (W:World) (g:Nat) (A:Option Addr) (c:Nat),Memo m l W g->Kd.C (Kd.int .i64) W A l.length l->l.length≤c →
  Calls Tra.prog 59 #[.agg #[.int .i64 m,.slice A l.length c],.agg #[.int .i64 a,.int .i64 b,.int .i64 t],.map (some g)] W fun e W'=>e=.returned (.int .i64 (val m l a b t))∧Memo m l W' g∧W.grownBy W' (some g)
def y3u (m:Int) (l:List Int) (a b t:Int) (i:Nat):Bool:=bitI (fre m (orI a b)) i && ((if t=1 then val m l (orI a (pt i)) b 2 else val m l a (orI b (pt i)) 1) == t)
theorem after_f {m:Int} (h1:1≤m) (h5:m≤5) (l:List Int) {a b t:Int} (hT:Turn a b t) {i:Nat} (hi:i<5) (hb:bitI (fre m (orI a b)) i=true) :
  ∃ q1 q2,Q.ambush_position_after.f a b t (i:Int)=some (q1,q2)∧Turn q1 q2 (3 - t)∧cntF m (orI q1 q2)<cntF m (orI a b)∧y3u m l a b t i=(val m l q1 q2 (3 - t) == t):=by
 unfold y3u;rw [hb,Bool.true_and];have hd:=yh5 h1 h5 (hT.a.or hT.b) hi hb;rcases hT.t with rfl|rfl
 ·refine ⟨orI a (pt i),b,?_,⟨hT.a.or (Dom.pt hi),hT.b,.inr rfl⟩,?_,rfl⟩
  ·unfold Q.ambush_position_after.f
   rw [if_pos rfl,if_pos (by omega)];rfl
  ·rw [swap_l hT.a hT.b hi];exact hd
 ·refine ⟨a,orI b (pt i),?_,⟨hT.a,hT.b.or (Dom.pt hi),.inl rfl⟩,?_,rfl⟩
  ·unfold Q.ambush_position_after.f
   rw [if_neg (by decide),if_pos (by omega)];rfl
  ·rw [swap_r hT.a hT.b hi];exact hd
theorem other_f {t:Int} (h:t=1∨t=2):Q.ambush_other.f t=some (3 - t):=by
 rcases h with rfl|rfl<;>decide +kernel
theorem yf1 {m:Int} (h1:1≤m) (h5:m≤5) (l:List Int) {a b t:Int} (hT:Turn a b t) :
  val m l a b t=if wonL l a then 1 else if fre m (orI a b)=0 then 2 else if (List.range m.toNat).any (y3u m l a b t) then t else 3 - t:=val_eq h1 h5 l t hT.a hT.b
theorem any_at {n i:Nat} {f:Nat->Bool} (hi:i<n) (h:f i=true):(List.range n).any f=true:=List.any_eq_true.2 ⟨i,List.mem_range.2 hi,h⟩
theorem yhs {n:Nat} {m:Int} (h1:1≤m) (h5:m≤5) {l:List Int} (IH:WinC n m l):WinC (n+1) m l:=by
 intro a b t hT hcnt W g A c hM hr hc;have hu36:=Tra.underlying100;have hu38:=Tra.underlying102;have hu40:=Tra.underlying104;have HT:=As0.mk hT;have HV:=As0.mk (yf1 h1 h5 l hT);have HI:=As0.mk (show WinC n m l from IH);have HLC:=As0.mk hc;have hB1:=y01 (y01 (Below.refl W.heap.size W) (.cells #[.int .i64 m,.slice A l.length c] 100)) (.cells #[.int .i64 a,.int .i64 b,.int .i64 t] 104);have HX0:=As0.mk (show Box W g m A l c a b t ((W.alloc (.cells #[.int .i64 m,.slice A l.length c] 100)).alloc (.cells #[.int .i64 a,.int .i64 b,.int .i64 t] 104)) from
  ⟨y0d (heap_alloc_new W (.cells #[.int .i64 m,.slice A l.length c] 100)) _,y3o _ (asize _ _),hM.below hB1,Kd.C_below hr hB1,y4k hB1⟩)
 have HOT:=As0.mk (other_f hT.t);have HCN:=As0.mk hcnt;obtain ⟨F,hF⟩:∃ F,fre m (orI a b)=F:=⟨_,rfl⟩
 have HFD:=As0.mk (show Dom F from hF ▸ fre_dom h1 h5 (hT.a.or hT.b));have HFF:=As0.mk (show Q.ambush_field_free.f m l a b=some F from by unfold Q.ambush_field_free.f;rw [if_pos (by omega),← hF];rfl);have HFE:=As0.mk hF;have c0:=HX0.out.c0;have c1:=HX0.out.c1;have c2:=HX0.out.c2;have c3:=HX0.out.c3;have c4:=HX0.out.c4;clear hT IH hB1 hM hr hc hcnt hF;cases hw:wonL l a with
 |true =>
  have HVE:=As0.mk (show val m l a b t=1 from by rw [HV.out,hw];rfl);go_enter Tra.func59,Tra.ntmps59
  go_wp2_with fail
  refine (y9e m a b A c l _ HX0.out.hr HLC.out).mono ?_
  rintro e w1 ⟨rfl,hb1⟩
  have HX1:=As0.mk (HX0.out.below hb1);rw [hw];clear hb1 HX0;go_wp2
  go_ret
  exact ⟨by rw [HVE.out];first|done|rfl,HX1.out.hm,HX1.out.gr⟩
 |false =>
  go_enter Tra.func59,Tra.ntmps59
  go_wp2_with fail
  refine (y9e m a b A c l _ HX0.out.hr HLC.out).mono ?_
  rintro e w1 ⟨rfl,hb1⟩
  have HX1:=As0.mk (HX0.out.below hb1);rw [hw];have HW:=As0.mk hw;have c0:=HX1.out.c0;have c1:=HX1.out.c1;have c2:=HX1.out.c2;have c3:=HX1.out.c3;have c4:=HX1.out.c4;clear hb1 HX0 hw;go_wp2_with fail
  refine (Q.ambush_field_free.calls m A c l a b F _ HX1.out.hr HLC.out HFF.out).mono ?_
  rintro e w2 ⟨rfl,hb2⟩
  have HX2:=As0.mk (HX1.out.below hb2);clear hb2 HX1 c0 c1 c2 c3 c4;have c0:=HX2.out.c0;have c1:=HX2.out.c1;have c2:=HX2.out.c2;have c3:=HX2.out.c3;have c4:=HX2.out.c4
  by_cases hF0:F=0
  ·have HVE:=As0.mk (show val m l a b t=2 from by rw [HV.out,HW.out,HFE.out,if_neg (by simp),if_pos hF0])
   have hf0:=eq_true hF0;have hf1:(F == 0)=true:=by rw [hF0];rfl
   go_wp2_with fail
   go_ret
   exact ⟨by rw [HVE.out];first|done|rfl,HX2.out.hm,HX2.out.gr⟩
  ·have hf0:=eq_false hF0
   have hf1:(F == 0)=false:=by rw [beq_eq_false_iff_ne];exact hF0
   have HVE:=As0.mk (show val m l a b t=if (List.range m.toNat).any (y3u m l a b t) then t else 3 - t from by rw [HV.out,HW.out,HFE.out,if_neg (by simp),if_neg hF0]);clear hF0;rcases HX2.out.hm.lookup HT.out with hl|hl
   case inr =>
    have hl':(Instr.lookup 109 (.map (some g)) (.agg #[.int .i64 a,.int .i64 b,.int .i64 t]) false).run Tra.prog w2=.ok (.int .i64 (val m l a b t)) w2:=hl;have hne:val m l a b t≠0:=by
     rcases val_12 h1 h5 l HT.out.t HT.out.a HT.out.b with h|h<;>rw [h]<;>decide
    obtain ⟨V,hV⟩:∃ V,val m l a b t=V:=⟨_,rfl⟩
    rw [hV] at hl' hne;have HVV:=As0.mk hV;have hn0:=eq_false hne;have hn1:(V == 0)=false:=by rw [beq_eq_false_iff_ne];exact hne
    clear hl hV hne;go_wp2_with fail
    go_ret
    exact ⟨by rw [HVV.out];first|done|rfl,HX2.out.hm,HX2.out.gr⟩
   case inl =>
    have hl':(Instr.lookup 109 (.map (some g)) (.agg #[.int .i64 a,.int .i64 b,.int .i64 t]) false).run Tra.prog w2=.ok (.int .i64 0) w2:=hl;clear hl;go_wp2_with fail
    refine (Q.ambush_other.calls t (3 - t) _ HOT.out).mono ?_
    rintro e w3 ⟨rfl,hb3⟩
    have HX3:=As0.mk (HX2.out.below (y1u hb3));clear hb3 HX2 hl' c0 c1 c2 c3 c4;have c0:=HX3.out.c0;go_wp2_with fail
    go_loopw [8,30] (fun v8 v30 W'=>∃ (i:Nat),v30=.int .i64 i∧v8=.int .i64 (3 - t)∧As0 ((i:Int)≤m)∧As0 ((List.range i).any (y3u m l a b t)=false)∧As0 (Box W g m A l c a b t W')) (fun _ v30 _=>(m - intOf v30).toNat)
    case atStart=>exact ⟨0,rfl,rfl,⟨by omega⟩,⟨rfl⟩,HX3⟩
    case round =>
     obtain ⟨i,rfl,rfl,hi,HN,HXr⟩:=hrel;have hi':=hi.out;clear HX3 c0
     by_cases hlt:(i:Int)<m
     ·have HI5:=As0.mk (show i<5 from by omega)
      have HS:=As0.mk (show (List.range (i+1)).any (y3u m l a b t)=y3u m l a b t i from by rw [List.range_succ,List.any_append,HN.out];simp);cases hbit:(Go.bits .and .i64 (F / 2 ^ i) 1 == 1) with
      |false =>
       have HS2:=As0.mk (show y3u m l a b t i=false from by unfold y3u;rw [HFE.out];show ((Go.bits .and .i64 (F / 2 ^ i) 1 == 1) && _)=false;rw [hbit];rfl);go_wp2_with fail
       refine y2d (n:=26) (S:=Held W.heap.size m A l c a b t) (ds:=[]) #[false,false,false,false,false,false,false,false,false,false,false,false,false,false,false,false,false,false,false,false,false,false,false,false,false,false] (by kernel_rfl) rfl rfl (HXr.out.below (y02 (Below.refl _ _))).S (fun hHeld=>?_);have HXd:=As0.mk (HXr.out.below (y02 (Below.refl _ _)));clear HXr;refine y1l (i:=0) (N:=some 33) (v:=?_) (a':=?_) #[true,false,false,false,false,false,false,false,false,false,false,false,false,false,false,false,false,false,false,false,false,false,false,false,false,false] rfl rfl (by kernel_rfl) (fun _ _ _ h=>h) (Or.inl ⟨by rfl,?_⟩) hHeld ?_ ?_;rotate_left
       ·rintro w' ⟨⟨s0,s1⟩,s2,s3,s4⟩
        go_simp
        with_reducible rfl
       rotate_left
       ·simp only [Act.put,List.setIfInBounds_toArray,List.set_cons_zero,List.set_cons_succ,y0a,y0b]
        rfl
       refine y0e (i:=1) (N:=some 34) (v:=?_) (a':=?_) #[true,true,false,false,false,false,false,false,false,false,false,false,false,false,false,false,false,false,false,false,false,false,false,false,false,false] rfl rfl (by kernel_rfl) (fun _ _ _ h=>h) (Or.inl ⟨by rfl,?_⟩) ?_ ?_;rotate_left
       ·intro w'
        go_simp
        with_reducible rfl
       rotate_left
       ·simp only [Act.put,List.setIfInBounds_toArray,List.set_cons_zero,List.set_cons_succ,y0a,y0b]
        rfl
       refine y1l (i:=2) (N:=some 35) (v:=?_) (a':=?_) #[true,true,true,false,false,false,false,false,false,false,false,false,false,false,false,false,false,false,false,false,false,false,false,false,false,false] rfl rfl (by kernel_rfl) (fun _ _ _ h=>h) (Or.inl ⟨by rfl,?_⟩) hHeld ?_ ?_;rotate_left
       ·rintro w' ⟨⟨s0,s1⟩,s2,s3,s4⟩
        go_simp
        with_reducible rfl
       rotate_left
       ·simp only [Act.put,List.setIfInBounds_toArray,List.set_cons_zero,List.set_cons_succ,y0a,y0b]
        rfl
       refine y0e (i:=4) (N:=some 37) (v:=?_) (a':=?_) #[true,true,true,false,true,false,false,false,false,false,false,false,false,false,false,false,false,false,false,false,false,false,false,false,false,false] rfl rfl (by kernel_rfl) (fun _ _ _ h=>h) (Or.inl ⟨by rfl,?_⟩) ?_ ?_;rotate_left
       ·intro w'
        go_simp
        with_reducible rfl
       rotate_left
       ·simp only [Act.put,List.setIfInBounds_toArray,List.set_cons_zero,List.set_cons_succ,y0a,y0b]
        rfl
       refine one_ (i:=3) (N:=some 36) #[true,true,true,true,true,false,false,false,false,false,false,false,false,false,false,false,false,false,false,false,false,false,false,false,false,false] rfl rfl (by kernel_rfl) (by decide) (fun K hK=>?_);refine y70 Tra.func71 (by kernel_rfl) rfl #[.agg #[.int .i64 m,.slice A l.length c],.agg #[.int .i64 a,.int .i64 b]] (by rfl) rfl rfl (by (try simp only [List.map_toArray,List.map_cons,List.map_nil]);first|done|rfl) ?_
       with_reducible refine (Q.ambush_field_free.calls m A c l a b F _ HXd.out.hr HLC.out HFF.out).mono ?_
       rintro e w1 ⟨rfl,hb_⟩
       refine ⟨_,rfl,?_⟩;have HXw1:=As0.mk (HXd.out.below hb_);clear hb_ HXd;refine hK.out _ _ HXw1.out.S (fun hHeld=>?_);clear hK K;clear hHeld;have hHeld:=HXw1.out.S;refine y43 (a':=?_) ?_ ?_;rotate_left
       ·show Act.put _ (some 36) _=_
        simp only [Act.put,List.setIfInBounds_toArray,List.set_cons_zero,List.set_cons_succ,y0a,y0b];rfl
       refine y0e (i:=5) (N:=some 38) (v:=?_) (a':=?_) #[true,true,true,true,true,true,false,false,false,false,false,false,false,false,false,false,false,false,false,false,false,false,false,false,false,false] rfl rfl (by kernel_rfl) (fun _ _ _ h=>h) (Or.inl ⟨by rfl,?_⟩) ?_ ?_;rotate_left
       ·intro w'
        go_simp
        with_reducible rfl
       rotate_left
       ·simp only [Act.put,List.setIfInBounds_toArray,List.set_cons_zero,List.set_cons_succ,y0a,y0b]
        rfl
       refine y0e (i:=6) (N:=some 39) (v:=?_) (a':=?_) #[true,true,true,true,true,true,true,false,false,false,false,false,false,false,false,false,false,false,false,false,false,false,false,false,false,false] rfl rfl (by kernel_rfl) (fun _ _ _ h=>h) (Or.inl ⟨by rfl,?_⟩) ?_ ?_;rotate_left
       ·intro w'
        go_simp
        with_reducible rfl
       rotate_left
       ·simp only [Act.put,List.setIfInBounds_toArray,List.set_cons_zero,List.set_cons_succ,y0a,y0b]
        rfl
       refine y0e (i:=7) (N:=some 40) (v:=?_) (a':=?_) #[true,true,true,true,true,true,true,true,false,false,false,false,false,false,false,false,false,false,false,false,false,false,false,false,false,false] rfl rfl (by kernel_rfl) (fun _ _ _ h=>h) (Or.inl ⟨by rfl,?_⟩) ?_ ?_;rotate_left
       ·intro w'
        go_simp
        with_reducible rfl
       rotate_left
       ·simp only [Act.put,List.setIfInBounds_toArray,List.set_cons_zero,List.set_cons_succ,y0a,y0b]
        rfl
       refine y0e (i:=8) (N:=some 41) (v:=?_) (a':=?_) #[true,true,true,true,true,true,true,true,true,false,false,false,false,false,false,false,false,false,false,false,false,false,false,false,false,false] rfl rfl (by kernel_rfl) (fun _ _ _ h=>h) (Or.inl ⟨by rfl,?_⟩) ?_ ?_;rotate_left
       ·intro w'
        go_simp
        with_reducible rfl
       rotate_left
       ·simp only [Act.put,List.setIfInBounds_toArray,List.set_cons_zero,List.set_cons_succ,y0a,y0b]
        rfl
       refine y0e (i:=9) (N:=some 42) (v:=undef) (a':=?_) #[true,true,true,true,true,true,true,true,true,true,false,false,false,false,false,false,false,false,false,false,false,false,false,false,false,false] rfl rfl (by kernel_rfl) (fun _ _ _ h=>h) (Or.inr ⟨by rfl,rfl⟩) ?_ ?_;rotate_left
       ·simp only [Act.put,List.setIfInBounds_toArray,List.set_cons_zero,List.set_cons_succ,y0a,y0b]
        rfl
       refine y0e (i:=10) (N:=some 43) (v:=undef) (a':=?_) #[true,true,true,true,true,true,true,true,true,true,true,false,false,false,false,false,false,false,false,false,false,false,false,false,false,false] rfl rfl (by kernel_rfl) (fun _ _ _ h=>h) (Or.inr ⟨by rfl,rfl⟩) ?_ ?_;rotate_left
       ·simp only [Act.put,List.setIfInBounds_toArray,List.set_cons_zero,List.set_cons_succ,y0a,y0b]
        rfl
       refine y0e (i:=11) (N:=some 44) (v:=undef) (a':=?_) #[true,true,true,true,true,true,true,true,true,true,true,true,false,false,false,false,false,false,false,false,false,false,false,false,false,false] rfl rfl (by kernel_rfl) (fun _ _ _ h=>h) (Or.inr ⟨by rfl,rfl⟩) ?_ ?_;rotate_left
       ·simp only [Act.put,List.setIfInBounds_toArray,List.set_cons_zero,List.set_cons_succ,y0a,y0b]
        rfl
       refine y0e (i:=12) (N:=some 45) (v:=undef) (a':=?_) #[true,true,true,true,true,true,true,true,true,true,true,true,true,false,false,false,false,false,false,false,false,false,false,false,false,false] rfl rfl (by kernel_rfl) (fun _ _ _ h=>h) (Or.inr ⟨by rfl,rfl⟩) ?_ ?_;rotate_left
       ·simp only [Act.put,List.setIfInBounds_toArray,List.set_cons_zero,List.set_cons_succ,y0a,y0b]
        rfl
       refine y0e (i:=13) (N:=some 46) (v:=undef) (a':=?_) #[true,true,true,true,true,true,true,true,true,true,true,true,true,true,false,false,false,false,false,false,false,false,false,false,false,false] rfl rfl (by kernel_rfl) (fun _ _ _ h=>h) (Or.inr ⟨by rfl,rfl⟩) ?_ ?_;rotate_left
       ·simp only [Act.put,List.setIfInBounds_toArray,List.set_cons_zero,List.set_cons_succ,y0a,y0b]
        rfl
       refine y0e (i:=14) (N:=some 47) (v:=undef) (a':=?_) #[true,true,true,true,true,true,true,true,true,true,true,true,true,true,true,false,false,false,false,false,false,false,false,false,false,false] rfl rfl (by kernel_rfl) (fun _ _ _ h=>h) (Or.inr ⟨by rfl,rfl⟩) ?_ ?_;rotate_left
       ·simp only [Act.put,List.setIfInBounds_toArray,List.set_cons_zero,List.set_cons_succ,y0a,y0b]
        rfl
       refine y0e (i:=15) (N:=some 48) (v:=undef) (a':=?_) #[true,true,true,true,true,true,true,true,true,true,true,true,true,true,true,true,false,false,false,false,false,false,false,false,false,false] rfl rfl (by kernel_rfl) (fun _ _ _ h=>h) (Or.inr ⟨by rfl,rfl⟩) ?_ ?_;rotate_left
       ·simp only [Act.put,List.setIfInBounds_toArray,List.set_cons_zero,List.set_cons_succ,y0a,y0b]
        rfl
       refine y0e (i:=16) (N:=some 49) (v:=undef) (a':=?_) #[true,true,true,true,true,true,true,true,true,true,true,true,true,true,true,true,true,false,false,false,false,false,false,false,false,false] rfl rfl (by kernel_rfl) (fun _ _ _ h=>h) (Or.inr ⟨by rfl,rfl⟩) ?_ ?_;rotate_left
       ·simp only [Act.put,List.setIfInBounds_toArray,List.set_cons_zero,List.set_cons_succ,y0a,y0b]
        rfl
       refine y0e (i:=17) (N:=some 50) (v:=undef) (a':=?_) #[true,true,true,true,true,true,true,true,true,true,true,true,true,true,true,true,true,true,false,false,false,false,false,false,false,false] rfl rfl (by kernel_rfl) (fun _ _ _ h=>h) (Or.inr ⟨by rfl,rfl⟩) ?_ ?_;rotate_left
       ·simp only [Act.put,List.setIfInBounds_toArray,List.set_cons_zero,List.set_cons_succ,y0a,y0b]
        rfl
       refine y0e (i:=18) (N:=some 51) (v:=undef) (a':=?_) #[true,true,true,true,true,true,true,true,true,true,true,true,true,true,true,true,true,true,true,false,false,false,false,false,false,false] rfl rfl (by kernel_rfl) (fun _ _ _ h=>h) (Or.inr ⟨by rfl,rfl⟩) ?_ ?_;rotate_left
       ·simp only [Act.put,List.setIfInBounds_toArray,List.set_cons_zero,List.set_cons_succ,y0a,y0b]
        rfl
       refine y0e (i:=19) (N:=some 52) (v:=undef) (a':=?_) #[true,true,true,true,true,true,true,true,true,true,true,true,true,true,true,true,true,true,true,true,false,false,false,false,false,false] rfl rfl (by kernel_rfl) (fun _ _ _ h=>h) (Or.inr ⟨by rfl,rfl⟩) ?_ ?_;rotate_left
       ·simp only [Act.put,List.setIfInBounds_toArray,List.set_cons_zero,List.set_cons_succ,y0a,y0b]
        rfl
       refine y0e (i:=20) (N:=some 53) (v:=undef) (a':=?_) #[true,true,true,true,true,true,true,true,true,true,true,true,true,true,true,true,true,true,true,true,true,false,false,false,false,false] rfl rfl (by kernel_rfl) (fun _ _ _ h=>h) (Or.inr ⟨by rfl,rfl⟩) ?_ ?_;rotate_left
       ·simp only [Act.put,List.setIfInBounds_toArray,List.set_cons_zero,List.set_cons_succ,y0a,y0b]
        rfl
       refine y0e (i:=21) (N:=some 54) (v:=undef) (a':=?_) #[true,true,true,true,true,true,true,true,true,true,true,true,true,true,true,true,true,true,true,true,true,true,false,false,false,false] rfl rfl (by kernel_rfl) (fun _ _ _ h=>h) (Or.inr ⟨by rfl,rfl⟩) ?_ ?_;rotate_left
       ·simp only [Act.put,List.setIfInBounds_toArray,List.set_cons_zero,List.set_cons_succ,y0a,y0b]
        rfl
       refine y0e (i:=22) (N:=some 55) (v:=undef) (a':=?_) #[true,true,true,true,true,true,true,true,true,true,true,true,true,true,true,true,true,true,true,true,true,true,true,false,false,false] rfl rfl (by kernel_rfl) (fun _ _ _ h=>h) (Or.inr ⟨by rfl,rfl⟩) ?_ ?_;rotate_left
       ·simp only [Act.put,List.setIfInBounds_toArray,List.set_cons_zero,List.set_cons_succ,y0a,y0b]
        rfl
       refine y0e (i:=23) (N:=some 56) (v:=undef) (a':=?_) #[true,true,true,true,true,true,true,true,true,true,true,true,true,true,true,true,true,true,true,true,true,true,true,true,false,false] rfl rfl (by kernel_rfl) (fun _ _ _ h=>h) (Or.inr ⟨by rfl,rfl⟩) ?_ ?_;rotate_left
       ·simp only [Act.put,List.setIfInBounds_toArray,List.set_cons_zero,List.set_cons_succ,y0a,y0b]
        rfl
       refine y0e (i:=24) (N:=some 57) (v:=undef) (a':=?_) #[true,true,true,true,true,true,true,true,true,true,true,true,true,true,true,true,true,true,true,true,true,true,true,true,true,false] rfl rfl (by kernel_rfl) (fun _ _ _ h=>h) (Or.inr ⟨by rfl,rfl⟩) ?_ ?_;rotate_left
       ·simp only [Act.put,List.setIfInBounds_toArray,List.set_cons_zero,List.set_cons_succ,y0a,y0b]
        rfl
       refine y0e (i:=25) (N:=some 58) (v:=?_) (a':=?_) #[true,true,true,true,true,true,true,true,true,true,true,true,true,true,true,true,true,true,true,true,true,true,true,true,true,true] rfl rfl (by kernel_rfl) (fun _ _ _ h=>h) (Or.inl ⟨by rfl,?_⟩) ?_ ?_;rotate_left
       ·intro w'
        go_simp
        with_reducible rfl
       rotate_left
       ·simp only [Act.put,List.setIfInBounds_toArray,List.set_cons_zero,List.set_cons_succ,y0a,y0b]
        rfl
       refine y3x (by kernel_rfl) ?_;go_wp2_with fail
       go_roundw
       case rel=>exact ⟨i+1,by go_num,rfl,⟨by omega⟩,⟨by rw [HS.out,HS2.out]⟩,HXw1⟩
       case measure=>simp [intOf];omega
      |true =>
       obtain ⟨q1,q2,haf,hTQ,hcq,hmv⟩:=after_f h1 h5 l HT.out HI5.out (show bitI (fre m (orI a b)) i=true from by rw [HFE.out];exact hbit);have HAF:=As0.mk haf;have HTQ:=As0.mk hTQ;have HCQ:=As0.mk (show cntF m (orI q1 q2)<n from by have:=HCN.out;omega);obtain ⟨V,hV⟩:∃ V,val m l q1 q2 (3 - t)=V:=⟨_,rfl⟩
       have HI2:=As0.mk (show ∀ (W:World) (g:Nat) (A:Option Addr) (c:Nat),Memo m l W g->Kd.C (Kd.int .i64) W A l.length l->l.length≤c →
        Calls Tra.prog 59 #[.agg #[.int .i64 m,.slice A l.length c],.agg #[.int .i64 q1,.int .i64 q2,.int .i64 (3 - t)],.map (some g)] W fun e W'=>e=.returned (.int .i64 V)∧Memo m l W' g∧W.grownBy W' (some g) from hV ▸ HI.out q1 q2 (3 - t) hTQ HCQ.out)
       have HMV:=As0.mk (show y3u m l a b t i=(V == t) from hV ▸ hmv);clear haf hTQ hcq hmv hV
       by_cases hvt:V=t
       ·have HFND:=As0.mk (show (List.range m.toNat).any (y3u m l a b t)=true from any_at (i:=i) (by omega) (by rw [HMV.out,hvt];simp))
        have hv0:=eq_true hvt;have hv1:(V == t)=true:=by rw [hvt];simp
        clear hvt;go_wp2_with fail
        refine y2d (n:=26) (S:=Held W.heap.size m A l c a b t) (ds:=[]) #[false,false,false,false,false,false,false,false,false,false,false,false,false,false,false,false,false,false,false,false,false,false,false,false,false,false] (by kernel_rfl) rfl rfl (HXr.out.below (y02 (Below.refl _ _))).S (fun hHeld=>?_);have HXd:=As0.mk (HXr.out.below (y02 (Below.refl _ _)));clear HXr;refine y1l (i:=0) (N:=some 33) (v:=?_) (a':=?_) #[true,false,false,false,false,false,false,false,false,false,false,false,false,false,false,false,false,false,false,false,false,false,false,false,false,false] rfl rfl (by kernel_rfl) (fun _ _ _ h=>h) (Or.inl ⟨by rfl,?_⟩) hHeld ?_ ?_;rotate_left
        ·rintro w' ⟨⟨s0,s1⟩,s2,s3,s4⟩
         go_simp
         with_reducible rfl
        rotate_left
        ·simp only [Act.put,List.setIfInBounds_toArray,List.set_cons_zero,List.set_cons_succ,y0a,y0b]
         rfl
        refine y0e (i:=1) (N:=some 34) (v:=?_) (a':=?_) #[true,true,false,false,false,false,false,false,false,false,false,false,false,false,false,false,false,false,false,false,false,false,false,false,false,false] rfl rfl (by kernel_rfl) (fun _ _ _ h=>h) (Or.inl ⟨by rfl,?_⟩) ?_ ?_;rotate_left
        ·intro w'
         go_simp
         with_reducible rfl
        rotate_left
        ·simp only [Act.put,List.setIfInBounds_toArray,List.set_cons_zero,List.set_cons_succ,y0a,y0b]
         rfl
        refine y1l (i:=2) (N:=some 35) (v:=?_) (a':=?_) #[true,true,true,false,false,false,false,false,false,false,false,false,false,false,false,false,false,false,false,false,false,false,false,false,false,false] rfl rfl (by kernel_rfl) (fun _ _ _ h=>h) (Or.inl ⟨by rfl,?_⟩) hHeld ?_ ?_;rotate_left
        ·rintro w' ⟨⟨s0,s1⟩,s2,s3,s4⟩
         go_simp
         with_reducible rfl
        rotate_left
        ·simp only [Act.put,List.setIfInBounds_toArray,List.set_cons_zero,List.set_cons_succ,y0a,y0b]
         rfl
        refine y0e (i:=4) (N:=some 37) (v:=?_) (a':=?_) #[true,true,true,false,true,false,false,false,false,false,false,false,false,false,false,false,false,false,false,false,false,false,false,false,false,false] rfl rfl (by kernel_rfl) (fun _ _ _ h=>h) (Or.inl ⟨by rfl,?_⟩) ?_ ?_;rotate_left
        ·intro w'
         go_simp
         with_reducible rfl
        rotate_left
        ·simp only [Act.put,List.setIfInBounds_toArray,List.set_cons_zero,List.set_cons_succ,y0a,y0b]
         rfl
        refine one_ (i:=3) (N:=some 36) #[true,true,true,true,true,false,false,false,false,false,false,false,false,false,false,false,false,false,false,false,false,false,false,false,false,false] rfl rfl (by kernel_rfl) (by decide) (fun K hK=>?_);refine y70 Tra.func71 (by kernel_rfl) rfl #[.agg #[.int .i64 m,.slice A l.length c],.agg #[.int .i64 a,.int .i64 b]] (by rfl) rfl rfl (by (try simp only [List.map_toArray,List.map_cons,List.map_nil]);first|done|rfl) ?_
        with_reducible refine (Q.ambush_field_free.calls m A c l a b F _ HXd.out.hr HLC.out HFF.out).mono ?_
        rintro e w1 ⟨rfl,hb_⟩
        refine ⟨_,rfl,?_⟩;have HXw1:=As0.mk (HXd.out.below hb_);clear hb_ HXd;refine hK.out _ _ HXw1.out.S (fun hHeld=>?_);clear hK K;clear hHeld;have hHeld:=HXw1.out.S;refine y43 (a':=?_) ?_ ?_;rotate_left
        ·show Act.put _ (some 36) _=_
         simp only [Act.put,List.setIfInBounds_toArray,List.set_cons_zero,List.set_cons_succ,y0a,y0b];rfl
        refine y0e (i:=5) (N:=some 38) (v:=?_) (a':=?_) #[true,true,true,true,true,true,false,false,false,false,false,false,false,false,false,false,false,false,false,false,false,false,false,false,false,false] rfl rfl (by kernel_rfl) (fun _ _ _ h=>h) (Or.inl ⟨by rfl,?_⟩) ?_ ?_;rotate_left
        ·intro w'
         go_simp
         with_reducible rfl
        rotate_left
        ·simp only [Act.put,List.setIfInBounds_toArray,List.set_cons_zero,List.set_cons_succ,y0a,y0b]
         rfl
        refine y0e (i:=6) (N:=some 39) (v:=?_) (a':=?_) #[true,true,true,true,true,true,true,false,false,false,false,false,false,false,false,false,false,false,false,false,false,false,false,false,false,false] rfl rfl (by kernel_rfl) (fun _ _ _ h=>h) (Or.inl ⟨by rfl,?_⟩) ?_ ?_;rotate_left
        ·intro w'
         go_simp
         with_reducible rfl
        rotate_left
        ·simp only [Act.put,List.setIfInBounds_toArray,List.set_cons_zero,List.set_cons_succ,y0a,y0b]
         rfl
        refine y0e (i:=7) (N:=some 40) (v:=?_) (a':=?_) #[true,true,true,true,true,true,true,true,false,false,false,false,false,false,false,false,false,false,false,false,false,false,false,false,false,false] rfl rfl (by kernel_rfl) (fun _ _ _ h=>h) (Or.inl ⟨by rfl,?_⟩) ?_ ?_;rotate_left
        ·intro w'
         go_simp
         with_reducible rfl
        rotate_left
        ·simp only [Act.put,List.setIfInBounds_toArray,List.set_cons_zero,List.set_cons_succ,y0a,y0b]
         rfl
        refine y0e (i:=8) (N:=some 41) (v:=?_) (a':=?_) #[true,true,true,true,true,true,true,true,true,false,false,false,false,false,false,false,false,false,false,false,false,false,false,false,false,false] rfl rfl (by kernel_rfl) (fun _ _ _ h=>h) (Or.inl ⟨by rfl,?_⟩) ?_ ?_;rotate_left
        ·intro w'
         go_simp
         with_reducible rfl
        rotate_left
        ·simp only [Act.put,List.setIfInBounds_toArray,List.set_cons_zero,List.set_cons_succ,y0a,y0b]
         rfl
        refine y1l (i:=9) (N:=some 42) (v:=?_) (a':=?_) #[true,true,true,true,true,true,true,true,true,true,false,false,false,false,false,false,false,false,false,false,false,false,false,false,false,false] rfl rfl (by kernel_rfl) (fun _ _ _ h=>h) (Or.inl ⟨by rfl,?_⟩) hHeld ?_ ?_;rotate_left
        ·rintro w' ⟨⟨s0,s1⟩,s2,s3,s4⟩
         go_simp
         with_reducible rfl
        rotate_left
        ·simp only [Act.put,List.setIfInBounds_toArray,List.set_cons_zero,List.set_cons_succ,y0a,y0b]
         rfl
        refine y0e (i:=10) (N:=some 43) (v:=?_) (a':=?_) #[true,true,true,true,true,true,true,true,true,true,true,false,false,false,false,false,false,false,false,false,false,false,false,false,false,false] rfl rfl (by kernel_rfl) (fun _ _ _ h=>h) (Or.inl ⟨by rfl,?_⟩) ?_ ?_;rotate_left
        ·intro w'
         go_simp
         with_reducible rfl
        rotate_left
        ·simp only [Act.put,List.setIfInBounds_toArray,List.set_cons_zero,List.set_cons_succ,y0a,y0b]
         rfl
        refine y1l (i:=11) (N:=some 44) (v:=?_) (a':=?_) #[true,true,true,true,true,true,true,true,true,true,true,true,false,false,false,false,false,false,false,false,false,false,false,false,false,false] rfl rfl (by kernel_rfl) (fun _ _ _ h=>h) (Or.inl ⟨by rfl,?_⟩) hHeld ?_ ?_;rotate_left
        ·rintro w' ⟨⟨s0,s1⟩,s2,s3,s4⟩
         go_simp
         with_reducible rfl
        rotate_left
        ·simp only [Act.put,List.setIfInBounds_toArray,List.set_cons_zero,List.set_cons_succ,y0a,y0b]
         rfl
        refine y0e (i:=12) (N:=some 45) (v:=?_) (a':=?_) #[true,true,true,true,true,true,true,true,true,true,true,true,true,false,false,false,false,false,false,false,false,false,false,false,false,false] rfl rfl (by kernel_rfl) (fun _ _ _ h=>h) (Or.inl ⟨by rfl,?_⟩) ?_ ?_;rotate_left
        ·intro w'
         go_simp
         with_reducible rfl
        rotate_left
        ·simp only [Act.put,List.setIfInBounds_toArray,List.set_cons_zero,List.set_cons_succ,y0a,y0b]
         rfl
        refine y1l (i:=13) (N:=some 46) (v:=?_) (a':=?_) #[true,true,true,true,true,true,true,true,true,true,true,true,true,true,false,false,false,false,false,false,false,false,false,false,false,false] rfl rfl (by kernel_rfl) (fun _ _ _ h=>h) (Or.inl ⟨by rfl,?_⟩) hHeld ?_ ?_;rotate_left
        ·rintro w' ⟨⟨s0,s1⟩,s2,s3,s4⟩
         go_simp
         with_reducible rfl
        rotate_left
        ·simp only [Act.put,List.setIfInBounds_toArray,List.set_cons_zero,List.set_cons_succ,y0a,y0b]
         rfl
        refine y0e (i:=14) (N:=some 47) (v:=?_) (a':=?_) #[true,true,true,true,true,true,true,true,true,true,true,true,true,true,true,false,false,false,false,false,false,false,false,false,false,false] rfl rfl (by kernel_rfl) (fun _ _ _ h=>h) (Or.inl ⟨by rfl,?_⟩) ?_ ?_;rotate_left
        ·intro w'
         go_simp
         with_reducible rfl
        rotate_left
        ·simp only [Act.put,List.setIfInBounds_toArray,List.set_cons_zero,List.set_cons_succ,y0a,y0b]
         rfl
        refine y0e (i:=16) (N:=some 49) (v:=?_) (a':=?_) #[true,true,true,true,true,true,true,true,true,true,true,true,true,true,true,false,true,false,false,false,false,false,false,false,false,false] rfl rfl (by kernel_rfl) (fun _ _ _ h=>h) (Or.inl ⟨by rfl,?_⟩) ?_ ?_;rotate_left
        ·intro w'
         go_simp
         with_reducible rfl
        rotate_left
        ·simp only [Act.put,List.setIfInBounds_toArray,List.set_cons_zero,List.set_cons_succ,y0a,y0b]
         rfl
        refine y1l (i:=17) (N:=some 50) (v:=?_) (a':=?_) #[true,true,true,true,true,true,true,true,true,true,true,true,true,true,true,false,true,true,false,false,false,false,false,false,false,false] rfl rfl (by kernel_rfl) (fun _ _ _ h=>h) (Or.inl ⟨by rfl,?_⟩) hHeld ?_ ?_;rotate_left
        ·rintro w' ⟨⟨s0,s1⟩,s2,s3,s4⟩
         go_simp
         with_reducible rfl
        rotate_left
        ·simp only [Act.put,List.setIfInBounds_toArray,List.set_cons_zero,List.set_cons_succ,y0a,y0b]
         rfl
        refine y0e (i:=22) (N:=some 55) (v:=?_) (a':=?_) #[true,true,true,true,true,true,true,true,true,true,true,true,true,true,true,false,true,true,false,false,false,false,true,false,false,false] rfl rfl (by kernel_rfl) (fun _ _ _ h=>h) (Or.inl ⟨by rfl,?_⟩) ?_ ?_;rotate_left
        ·intro w'
         go_simp
         with_reducible rfl
        rotate_left
        ·simp only [Act.put,List.setIfInBounds_toArray,List.set_cons_zero,List.set_cons_succ,y0a,y0b]
         rfl
        refine y1l (i:=23) (N:=some 56) (v:=?_) (a':=?_) #[true,true,true,true,true,true,true,true,true,true,true,true,true,true,true,false,true,true,false,false,false,false,true,true,false,false] rfl rfl (by kernel_rfl) (fun _ _ _ h=>h) (Or.inl ⟨by rfl,?_⟩) hHeld ?_ ?_;rotate_left
        ·rintro w' ⟨⟨s0,s1⟩,s2,s3,s4⟩
         go_simp
         with_reducible rfl
        rotate_left
        ·simp only [Act.put,List.setIfInBounds_toArray,List.set_cons_zero,List.set_cons_succ,y0a,y0b]
         rfl
        refine y0e (i:=20) (N:=some 53) (v:=?_) (a':=?_) #[true,true,true,true,true,true,true,true,true,true,true,true,true,true,true,false,true,true,false,false,true,false,true,true,false,false] rfl rfl (by kernel_rfl) (fun _ _ _ h=>h) (Or.inl ⟨by rfl,?_⟩) ?_ ?_;rotate_left
        ·intro w'
         go_simp
         with_reducible rfl
        rotate_left
        ·simp only [Act.put,List.setIfInBounds_toArray,List.set_cons_zero,List.set_cons_succ,y0a,y0b]
         rfl
        refine one_ (i:=15) (N:=some 48) #[true,true,true,true,true,true,true,true,true,true,true,true,true,true,true,true,true,true,false,false,true,false,true,true,false,false] rfl rfl (by kernel_rfl) (by decide) (fun K hK=>?_);refine y70 Tra.func73 (by kernel_rfl) rfl #[.agg #[.int .i64 a,.int .i64 b],.int .i64 t,.int .i64 (i:Int)] (by rfl) rfl rfl (by (try simp only [List.map_toArray,List.map_cons,List.map_nil]);first|done|rfl) ?_
        with_reducible refine (Q.ambush_position_after.calls a b t (i:Int) q1 q2 _ HAF.out).mono ?_
        rintro e w2 ⟨rfl,hb_⟩
        refine ⟨_,rfl,?_⟩;have HXw2:=As0.mk (HXw1.out.below hb_);clear hb_ HXw1;refine hK.out _ _ HXw2.out.S (fun hHeld=>?_);clear hK K;clear hHeld;have hHeld:=HXw2.out.S;refine y43 (a':=?_) ?_ ?_;rotate_left
        ·show Act.put _ (some 48) _=_
         simp only [Act.put,List.setIfInBounds_toArray,List.set_cons_zero,List.set_cons_succ,y0a,y0b];rfl
        refine one_ (i:=18) (N:=some 51) #[true,true,true,true,true,true,true,true,true,true,true,true,true,true,true,true,true,true,true,false,true,false,true,true,false,false] rfl rfl (by kernel_rfl) (by decide) (fun K hK=>?_);refine y70 Tra.func72 (by kernel_rfl) rfl #[.int .i64 t] (by rfl) rfl rfl (by (try simp only [List.map_toArray,List.map_cons,List.map_nil]);first|done|rfl) ?_
        with_reducible refine (Q.ambush_other.calls t (3 - t) _ HOT.out).mono ?_
        rintro e w3 ⟨rfl,hb_⟩
        refine ⟨_,rfl,?_⟩;have HXw3:=As0.mk (HXw2.out.below (y1u hb_));clear hb_ HXw2;refine hK.out _ _ HXw3.out.S (fun hHeld=>?_);clear hK K;clear hHeld;have hHeld:=HXw3.out.S;refine y43 (a':=?_) ?_ ?_;rotate_left
        ·show Act.put _ (some 51) _=_
         simp only [Act.put,List.setIfInBounds_toArray,List.set_cons_zero,List.set_cons_succ,y0a,y0b];rfl
        refine y0e (i:=19) (N:=some 52) (v:=?_) (a':=?_) #[true,true,true,true,true,true,true,true,true,true,true,true,true,true,true,true,true,true,true,true,true,false,true,true,false,false] rfl rfl (by kernel_rfl) (fun _ _ _ h=>h) (Or.inl ⟨by rfl,?_⟩) ?_ ?_;rotate_left
        ·intro w'
         go_simp
         with_reducible rfl
        rotate_left
        ·simp only [Act.put,List.setIfInBounds_toArray,List.set_cons_zero,List.set_cons_succ,y0a,y0b]
         rfl
        refine one_ (i:=21) (N:=some 54) #[true,true,true,true,true,true,true,true,true,true,true,true,true,true,true,true,true,true,true,true,true,true,true,true,false,false] rfl rfl (by kernel_rfl) (by decide) (fun K hK=>?_);refine y70 Tra.func59 (by kernel_rfl) rfl #[.agg #[.int .i64 m,.slice A l.length c],.agg #[.int .i64 q1,.int .i64 q2,.int .i64 (3 - t)],.map (some g)] (by rfl) rfl rfl (by (try simp only [List.map_toArray,List.map_cons,List.map_nil]);first|done|rfl) ?_
        with_reducible refine (HI2.out _ g A c HXw3.out.hm HXw3.out.hr HLC.out).mono ?_
        rintro e w4 ⟨rfl,hm_,hg_⟩
        refine ⟨_,rfl,?_⟩;have HXw4:=As0.mk (HXw3.out.grown hg_ hm_);clear HXw3 hm_ hg_;refine hK.out _ _ HXw4.out.S (fun hHeld=>?_);clear hK K;clear hHeld;have hHeld:=HXw4.out.S;refine y43 (a':=?_) ?_ ?_;rotate_left
        ·show Act.put _ (some 54) _=_
         simp only [Act.put,List.setIfInBounds_toArray,List.set_cons_zero,List.set_cons_succ,y0a,y0b];rfl
        refine y0e (i:=24) (N:=some 57) (v:=?_) (a':=?_) #[true,true,true,true,true,true,true,true,true,true,true,true,true,true,true,true,true,true,true,true,true,true,true,true,true,false] rfl rfl (by kernel_rfl) (fun _ _ _ h=>h) (Or.inl ⟨by rfl,?_⟩) ?_ ?_;rotate_left
        ·intro w'
         go_simp
         with_reducible rfl
        rotate_left
        ·simp only [Act.put,List.setIfInBounds_toArray,List.set_cons_zero,List.set_cons_succ,y0a,y0b]
         rfl
        refine y0e (i:=25) (N:=some 58) (v:=?_) (a':=?_) #[true,true,true,true,true,true,true,true,true,true,true,true,true,true,true,true,true,true,true,true,true,true,true,true,true,true] rfl rfl (by kernel_rfl) (fun _ _ _ h=>h) (Or.inl ⟨by rfl,?_⟩) ?_ ?_;rotate_left
        ·intro w'
         go_simp
         with_reducible rfl
        rotate_left
        ·simp only [Act.put,List.setIfInBounds_toArray,List.set_cons_zero,List.set_cons_succ,y0a,y0b]
         rfl
        refine y3x (by kernel_rfl) ?_;clear hv0 hv1;have HVX:=As0.mk (show val m l a b t=t from by rw [HVE.out,HFND.out];rfl);clear HVE;obtain ⟨wu,hu,hMu,hgu⟩:=HXw4.out.hm.update HT.out;rw [HVX.out] at hu;have hu':(Instr.mapUpdate 109 (.map (some g)) (.agg #[.int .i64 a,.int .i64 b,.int .i64 t]) (.int .i64 (t))).run Tra.prog _=.ok () wu:=hu;have HMU:=As0.mk hMu;have HGU:=As0.mk (World.grownBy.trans HXw4.out.gr hgu);have uc0:=HXw4.out.c2;have uc1:=HXw4.out.c3;have uc2:=HXw4.out.c4;clear hu hMu hgu;go_wp2_with fail
        go_ret
        exact ⟨by rw [HVX.out];first|done|rfl,HMU.out,HGU.out⟩
       ·have hv0:=eq_false hvt
        have hv1:(V == t)=false:=by rw [beq_eq_false_iff_ne];exact hvt
        have HS2:=As0.mk (show y3u m l a b t i=false from by rw [HMV.out,hv1]);clear hvt;go_wp2_with fail
        refine y2d (n:=26) (S:=Held W.heap.size m A l c a b t) (ds:=[]) #[false,false,false,false,false,false,false,false,false,false,false,false,false,false,false,false,false,false,false,false,false,false,false,false,false,false] (by kernel_rfl) rfl rfl (HXr.out.below (y02 (Below.refl _ _))).S (fun hHeld=>?_);have HXd:=As0.mk (HXr.out.below (y02 (Below.refl _ _)));clear HXr;refine y1l (i:=0) (N:=some 33) (v:=?_) (a':=?_) #[true,false,false,false,false,false,false,false,false,false,false,false,false,false,false,false,false,false,false,false,false,false,false,false,false,false] rfl rfl (by kernel_rfl) (fun _ _ _ h=>h) (Or.inl ⟨by rfl,?_⟩) hHeld ?_ ?_;rotate_left
        ·rintro w' ⟨⟨s0,s1⟩,s2,s3,s4⟩
         go_simp
         with_reducible rfl
        rotate_left
        ·simp only [Act.put,List.setIfInBounds_toArray,List.set_cons_zero,List.set_cons_succ,y0a,y0b]
         rfl
        refine y0e (i:=1) (N:=some 34) (v:=?_) (a':=?_) #[true,true,false,false,false,false,false,false,false,false,false,false,false,false,false,false,false,false,false,false,false,false,false,false,false,false] rfl rfl (by kernel_rfl) (fun _ _ _ h=>h) (Or.inl ⟨by rfl,?_⟩) ?_ ?_;rotate_left
        ·intro w'
         go_simp
         with_reducible rfl
        rotate_left
        ·simp only [Act.put,List.setIfInBounds_toArray,List.set_cons_zero,List.set_cons_succ,y0a,y0b]
         rfl
        refine y1l (i:=2) (N:=some 35) (v:=?_) (a':=?_) #[true,true,true,false,false,false,false,false,false,false,false,false,false,false,false,false,false,false,false,false,false,false,false,false,false,false] rfl rfl (by kernel_rfl) (fun _ _ _ h=>h) (Or.inl ⟨by rfl,?_⟩) hHeld ?_ ?_;rotate_left
        ·rintro w' ⟨⟨s0,s1⟩,s2,s3,s4⟩
         go_simp
         with_reducible rfl
        rotate_left
        ·simp only [Act.put,List.setIfInBounds_toArray,List.set_cons_zero,List.set_cons_succ,y0a,y0b]
         rfl
        refine y0e (i:=4) (N:=some 37) (v:=?_) (a':=?_) #[true,true,true,false,true,false,false,false,false,false,false,false,false,false,false,false,false,false,false,false,false,false,false,false,false,false] rfl rfl (by kernel_rfl) (fun _ _ _ h=>h) (Or.inl ⟨by rfl,?_⟩) ?_ ?_;rotate_left
        ·intro w'
         go_simp
         with_reducible rfl
        rotate_left
        ·simp only [Act.put,List.setIfInBounds_toArray,List.set_cons_zero,List.set_cons_succ,y0a,y0b]
         rfl
        refine one_ (i:=3) (N:=some 36) #[true,true,true,true,true,false,false,false,false,false,false,false,false,false,false,false,false,false,false,false,false,false,false,false,false,false] rfl rfl (by kernel_rfl) (by decide) (fun K hK=>?_);refine y70 Tra.func71 (by kernel_rfl) rfl #[.agg #[.int .i64 m,.slice A l.length c],.agg #[.int .i64 a,.int .i64 b]] (by rfl) rfl rfl (by (try simp only [List.map_toArray,List.map_cons,List.map_nil]);first|done|rfl) ?_
        with_reducible refine (Q.ambush_field_free.calls m A c l a b F _ HXd.out.hr HLC.out HFF.out).mono ?_
        rintro e w1 ⟨rfl,hb_⟩
        refine ⟨_,rfl,?_⟩;have HXw1:=As0.mk (HXd.out.below hb_);clear hb_ HXd;refine hK.out _ _ HXw1.out.S (fun hHeld=>?_);clear hK K;clear hHeld;have hHeld:=HXw1.out.S;refine y43 (a':=?_) ?_ ?_;rotate_left
        ·show Act.put _ (some 36) _=_
         simp only [Act.put,List.setIfInBounds_toArray,List.set_cons_zero,List.set_cons_succ,y0a,y0b];rfl
        refine y0e (i:=5) (N:=some 38) (v:=?_) (a':=?_) #[true,true,true,true,true,true,false,false,false,false,false,false,false,false,false,false,false,false,false,false,false,false,false,false,false,false] rfl rfl (by kernel_rfl) (fun _ _ _ h=>h) (Or.inl ⟨by rfl,?_⟩) ?_ ?_;rotate_left
        ·intro w'
         go_simp
         with_reducible rfl
        rotate_left
        ·simp only [Act.put,List.setIfInBounds_toArray,List.set_cons_zero,List.set_cons_succ,y0a,y0b]
         rfl
        refine y0e (i:=6) (N:=some 39) (v:=?_) (a':=?_) #[true,true,true,true,true,true,true,false,false,false,false,false,false,false,false,false,false,false,false,false,false,false,false,false,false,false] rfl rfl (by kernel_rfl) (fun _ _ _ h=>h) (Or.inl ⟨by rfl,?_⟩) ?_ ?_;rotate_left
        ·intro w'
         go_simp
         with_reducible rfl
        rotate_left
        ·simp only [Act.put,List.setIfInBounds_toArray,List.set_cons_zero,List.set_cons_succ,y0a,y0b]
         rfl
        refine y0e (i:=7) (N:=some 40) (v:=?_) (a':=?_) #[true,true,true,true,true,true,true,true,false,false,false,false,false,false,false,false,false,false,false,false,false,false,false,false,false,false] rfl rfl (by kernel_rfl) (fun _ _ _ h=>h) (Or.inl ⟨by rfl,?_⟩) ?_ ?_;rotate_left
        ·intro w'
         go_simp
         with_reducible rfl
        rotate_left
        ·simp only [Act.put,List.setIfInBounds_toArray,List.set_cons_zero,List.set_cons_succ,y0a,y0b]
         rfl
        refine y0e (i:=8) (N:=some 41) (v:=?_) (a':=?_) #[true,true,true,true,true,true,true,true,true,false,false,false,false,false,false,false,false,false,false,false,false,false,false,false,false,false] rfl rfl (by kernel_rfl) (fun _ _ _ h=>h) (Or.inl ⟨by rfl,?_⟩) ?_ ?_;rotate_left
        ·intro w'
         go_simp
         with_reducible rfl
        rotate_left
        ·simp only [Act.put,List.setIfInBounds_toArray,List.set_cons_zero,List.set_cons_succ,y0a,y0b]
         rfl
        refine y1l (i:=9) (N:=some 42) (v:=?_) (a':=?_) #[true,true,true,true,true,true,true,true,true,true,false,false,false,false,false,false,false,false,false,false,false,false,false,false,false,false] rfl rfl (by kernel_rfl) (fun _ _ _ h=>h) (Or.inl ⟨by rfl,?_⟩) hHeld ?_ ?_;rotate_left
        ·rintro w' ⟨⟨s0,s1⟩,s2,s3,s4⟩
         go_simp
         with_reducible rfl
        rotate_left
        ·simp only [Act.put,List.setIfInBounds_toArray,List.set_cons_zero,List.set_cons_succ,y0a,y0b]
         rfl
        refine y0e (i:=10) (N:=some 43) (v:=?_) (a':=?_) #[true,true,true,true,true,true,true,true,true,true,true,false,false,false,false,false,false,false,false,false,false,false,false,false,false,false] rfl rfl (by kernel_rfl) (fun _ _ _ h=>h) (Or.inl ⟨by rfl,?_⟩) ?_ ?_;rotate_left
        ·intro w'
         go_simp
         with_reducible rfl
        rotate_left
        ·simp only [Act.put,List.setIfInBounds_toArray,List.set_cons_zero,List.set_cons_succ,y0a,y0b]
         rfl
        refine y1l (i:=11) (N:=some 44) (v:=?_) (a':=?_) #[true,true,true,true,true,true,true,true,true,true,true,true,false,false,false,false,false,false,false,false,false,false,false,false,false,false] rfl rfl (by kernel_rfl) (fun _ _ _ h=>h) (Or.inl ⟨by rfl,?_⟩) hHeld ?_ ?_;rotate_left
        ·rintro w' ⟨⟨s0,s1⟩,s2,s3,s4⟩
         go_simp
         with_reducible rfl
        rotate_left
        ·simp only [Act.put,List.setIfInBounds_toArray,List.set_cons_zero,List.set_cons_succ,y0a,y0b]
         rfl
        refine y0e (i:=12) (N:=some 45) (v:=?_) (a':=?_) #[true,true,true,true,true,true,true,true,true,true,true,true,true,false,false,false,false,false,false,false,false,false,false,false,false,false] rfl rfl (by kernel_rfl) (fun _ _ _ h=>h) (Or.inl ⟨by rfl,?_⟩) ?_ ?_;rotate_left
        ·intro w'
         go_simp
         with_reducible rfl
        rotate_left
        ·simp only [Act.put,List.setIfInBounds_toArray,List.set_cons_zero,List.set_cons_succ,y0a,y0b]
         rfl
        refine y1l (i:=13) (N:=some 46) (v:=?_) (a':=?_) #[true,true,true,true,true,true,true,true,true,true,true,true,true,true,false,false,false,false,false,false,false,false,false,false,false,false] rfl rfl (by kernel_rfl) (fun _ _ _ h=>h) (Or.inl ⟨by rfl,?_⟩) hHeld ?_ ?_;rotate_left
        ·rintro w' ⟨⟨s0,s1⟩,s2,s3,s4⟩
         go_simp
         with_reducible rfl
        rotate_left
        ·simp only [Act.put,List.setIfInBounds_toArray,List.set_cons_zero,List.set_cons_succ,y0a,y0b]
         rfl
        refine y0e (i:=14) (N:=some 47) (v:=?_) (a':=?_) #[true,true,true,true,true,true,true,true,true,true,true,true,true,true,true,false,false,false,false,false,false,false,false,false,false,false] rfl rfl (by kernel_rfl) (fun _ _ _ h=>h) (Or.inl ⟨by rfl,?_⟩) ?_ ?_;rotate_left
        ·intro w'
         go_simp
         with_reducible rfl
        rotate_left
        ·simp only [Act.put,List.setIfInBounds_toArray,List.set_cons_zero,List.set_cons_succ,y0a,y0b]
         rfl
        refine y0e (i:=16) (N:=some 49) (v:=?_) (a':=?_) #[true,true,true,true,true,true,true,true,true,true,true,true,true,true,true,false,true,false,false,false,false,false,false,false,false,false] rfl rfl (by kernel_rfl) (fun _ _ _ h=>h) (Or.inl ⟨by rfl,?_⟩) ?_ ?_;rotate_left
        ·intro w'
         go_simp
         with_reducible rfl
        rotate_left
        ·simp only [Act.put,List.setIfInBounds_toArray,List.set_cons_zero,List.set_cons_succ,y0a,y0b]
         rfl
        refine y1l (i:=17) (N:=some 50) (v:=?_) (a':=?_) #[true,true,true,true,true,true,true,true,true,true,true,true,true,true,true,false,true,true,false,false,false,false,false,false,false,false] rfl rfl (by kernel_rfl) (fun _ _ _ h=>h) (Or.inl ⟨by rfl,?_⟩) hHeld ?_ ?_;rotate_left
        ·rintro w' ⟨⟨s0,s1⟩,s2,s3,s4⟩
         go_simp
         with_reducible rfl
        rotate_left
        ·simp only [Act.put,List.setIfInBounds_toArray,List.set_cons_zero,List.set_cons_succ,y0a,y0b]
         rfl
        refine y0e (i:=22) (N:=some 55) (v:=?_) (a':=?_) #[true,true,true,true,true,true,true,true,true,true,true,true,true,true,true,false,true,true,false,false,false,false,true,false,false,false] rfl rfl (by kernel_rfl) (fun _ _ _ h=>h) (Or.inl ⟨by rfl,?_⟩) ?_ ?_;rotate_left
        ·intro w'
         go_simp
         with_reducible rfl
        rotate_left
        ·simp only [Act.put,List.setIfInBounds_toArray,List.set_cons_zero,List.set_cons_succ,y0a,y0b]
         rfl
        refine y1l (i:=23) (N:=some 56) (v:=?_) (a':=?_) #[true,true,true,true,true,true,true,true,true,true,true,true,true,true,true,false,true,true,false,false,false,false,true,true,false,false] rfl rfl (by kernel_rfl) (fun _ _ _ h=>h) (Or.inl ⟨by rfl,?_⟩) hHeld ?_ ?_;rotate_left
        ·rintro w' ⟨⟨s0,s1⟩,s2,s3,s4⟩
         go_simp
         with_reducible rfl
        rotate_left
        ·simp only [Act.put,List.setIfInBounds_toArray,List.set_cons_zero,List.set_cons_succ,y0a,y0b]
         rfl
        refine y0e (i:=20) (N:=some 53) (v:=?_) (a':=?_) #[true,true,true,true,true,true,true,true,true,true,true,true,true,true,true,false,true,true,false,false,true,false,true,true,false,false] rfl rfl (by kernel_rfl) (fun _ _ _ h=>h) (Or.inl ⟨by rfl,?_⟩) ?_ ?_;rotate_left
        ·intro w'
         go_simp
         with_reducible rfl
        rotate_left
        ·simp only [Act.put,List.setIfInBounds_toArray,List.set_cons_zero,List.set_cons_succ,y0a,y0b]
         rfl
        refine one_ (i:=15) (N:=some 48) #[true,true,true,true,true,true,true,true,true,true,true,true,true,true,true,true,true,true,false,false,true,false,true,true,false,false] rfl rfl (by kernel_rfl) (by decide) (fun K hK=>?_);refine y70 Tra.func73 (by kernel_rfl) rfl #[.agg #[.int .i64 a,.int .i64 b],.int .i64 t,.int .i64 (i:Int)] (by rfl) rfl rfl (by (try simp only [List.map_toArray,List.map_cons,List.map_nil]);first|done|rfl) ?_
        with_reducible refine (Q.ambush_position_after.calls a b t (i:Int) q1 q2 _ HAF.out).mono ?_
        rintro e w2 ⟨rfl,hb_⟩
        refine ⟨_,rfl,?_⟩;have HXw2:=As0.mk (HXw1.out.below hb_);clear hb_ HXw1;refine hK.out _ _ HXw2.out.S (fun hHeld=>?_);clear hK K;clear hHeld;have hHeld:=HXw2.out.S;refine y43 (a':=?_) ?_ ?_;rotate_left
        ·show Act.put _ (some 48) _=_
         simp only [Act.put,List.setIfInBounds_toArray,List.set_cons_zero,List.set_cons_succ,y0a,y0b];rfl
        refine one_ (i:=18) (N:=some 51) #[true,true,true,true,true,true,true,true,true,true,true,true,true,true,true,true,true,true,true,false,true,false,true,true,false,false] rfl rfl (by kernel_rfl) (by decide) (fun K hK=>?_);refine y70 Tra.func72 (by kernel_rfl) rfl #[.int .i64 t] (by rfl) rfl rfl (by (try simp only [List.map_toArray,List.map_cons,List.map_nil]);first|done|rfl) ?_
        with_reducible refine (Q.ambush_other.calls t (3 - t) _ HOT.out).mono ?_
        rintro e w3 ⟨rfl,hb_⟩
        refine ⟨_,rfl,?_⟩;have HXw3:=As0.mk (HXw2.out.below (y1u hb_));clear hb_ HXw2;refine hK.out _ _ HXw3.out.S (fun hHeld=>?_);clear hK K;clear hHeld;have hHeld:=HXw3.out.S;refine y43 (a':=?_) ?_ ?_;rotate_left
        ·show Act.put _ (some 51) _=_
         simp only [Act.put,List.setIfInBounds_toArray,List.set_cons_zero,List.set_cons_succ,y0a,y0b];rfl
        refine y0e (i:=19) (N:=some 52) (v:=?_) (a':=?_) #[true,true,true,true,true,true,true,true,true,true,true,true,true,true,true,true,true,true,true,true,true,false,true,true,false,false] rfl rfl (by kernel_rfl) (fun _ _ _ h=>h) (Or.inl ⟨by rfl,?_⟩) ?_ ?_;rotate_left
        ·intro w'
         go_simp
         with_reducible rfl
        rotate_left
        ·simp only [Act.put,List.setIfInBounds_toArray,List.set_cons_zero,List.set_cons_succ,y0a,y0b]
         rfl
        refine one_ (i:=21) (N:=some 54) #[true,true,true,true,true,true,true,true,true,true,true,true,true,true,true,true,true,true,true,true,true,true,true,true,false,false] rfl rfl (by kernel_rfl) (by decide) (fun K hK=>?_);refine y70 Tra.func59 (by kernel_rfl) rfl #[.agg #[.int .i64 m,.slice A l.length c],.agg #[.int .i64 q1,.int .i64 q2,.int .i64 (3 - t)],.map (some g)] (by rfl) rfl rfl (by (try simp only [List.map_toArray,List.map_cons,List.map_nil]);first|done|rfl) ?_
        with_reducible refine (HI2.out _ g A c HXw3.out.hm HXw3.out.hr HLC.out).mono ?_
        rintro e w4 ⟨rfl,hm_,hg_⟩
        refine ⟨_,rfl,?_⟩;have HXw4:=As0.mk (HXw3.out.grown hg_ hm_);clear HXw3 hm_ hg_;refine hK.out _ _ HXw4.out.S (fun hHeld=>?_);clear hK K;clear hHeld;have hHeld:=HXw4.out.S;refine y43 (a':=?_) ?_ ?_;rotate_left
        ·show Act.put _ (some 54) _=_
         simp only [Act.put,List.setIfInBounds_toArray,List.set_cons_zero,List.set_cons_succ,y0a,y0b];rfl
        refine y0e (i:=24) (N:=some 57) (v:=?_) (a':=?_) #[true,true,true,true,true,true,true,true,true,true,true,true,true,true,true,true,true,true,true,true,true,true,true,true,true,false] rfl rfl (by kernel_rfl) (fun _ _ _ h=>h) (Or.inl ⟨by rfl,?_⟩) ?_ ?_;rotate_left
        ·intro w'
         go_simp
         with_reducible rfl
        rotate_left
        ·simp only [Act.put,List.setIfInBounds_toArray,List.set_cons_zero,List.set_cons_succ,y0a,y0b]
         rfl
        refine y0e (i:=25) (N:=some 58) (v:=?_) (a':=?_) #[true,true,true,true,true,true,true,true,true,true,true,true,true,true,true,true,true,true,true,true,true,true,true,true,true,true] rfl rfl (by kernel_rfl) (fun _ _ _ h=>h) (Or.inl ⟨by rfl,?_⟩) ?_ ?_;rotate_left
        ·intro w'
         go_simp
         with_reducible rfl
        rotate_left
        ·simp only [Act.put,List.setIfInBounds_toArray,List.set_cons_zero,List.set_cons_succ,y0a,y0b]
         rfl
        refine y3x (by kernel_rfl) ?_;clear hv0 hv1;go_wp2_with fail
        go_roundw
        case rel=>exact ⟨i+1,by go_num,rfl,⟨by omega⟩,⟨by rw [HS.out,HS2.out]⟩,HXw4⟩
        case measure=>simp [intOf];omega
     ·have hie:=As0.mk (show i=m.toNat from by omega)
      have HVX:=As0.mk (show val m l a b t=3 - t from by rw [HVE.out,← hie.out,HN.out];rfl);clear HVE;obtain ⟨wu,hu,hMu,hgu⟩:=HXr.out.hm.update HT.out;rw [HVX.out] at hu;have hu':(Instr.mapUpdate 109 (.map (some g)) (.agg #[.int .i64 a,.int .i64 b,.int .i64 t]) (.int .i64 (3 - t))).run Tra.prog _=.ok () wu:=hu;have HMU:=As0.mk hMu;have HGU:=As0.mk (World.grownBy.trans HXr.out.gr hgu);have uc0:=HXr.out.c2;have uc1:=HXr.out.c3;have uc2:=HXr.out.c4;clear hu hMu hgu;go_wp2_with fail
      go_ret
      exact ⟨by rw [HVX.out];first|done|rfl,HMU.out,HGU.out⟩
theorem yew {m:Int} (h1:1≤m) (h5:m≤5) (l:List Int):∀ n,WinC n m l
 |0=>fun a b t _ h=>absurd h (Nat.not_lt_zero _)
 |n+1=>yhs h1 h5 (yew h1 h5 l n)
end
section
attribute [local go_sem] y0x y0v y16 y15 y0q y0p y0w y0u
def y62 (v:Int):ByteArray:=if v=1 then ⟨#[119]⟩ else ⟨#[100]⟩
theorem yij {v:Int} (h:v=1∨v=2):Q.ambush_letter.f v=some (y62 v):=by
 rcases h with rfl|rfl<;>decide +kernel
theorem yhr (m:Int) (A:Option Addr) (c:Nat) (l:List Int) (s:ByteArray) (w:World) (hr:Kd.C (Kd.int .i64) w A l.length l) (hc:l.length≤c) (hF:FieldOK m l) (hS:y9a m s) {p1 p2:Int} (hp:y1g s s.size=(p1,p2)) (hd1:Dom p1) (hd2:Dom p2) :
  Calls Tra.prog 32 #[.int .i64 m,.slice A l.length c,.string s,.string ⟨#[119]⟩] w fun e w'=>e=.returned (.tuple #[.string (y62 (val m l p1 p2 1)),.int .i64 0])∧Below w.heap.size w w':=by
 have hu36:=Tra.underlying100;have hu38:=Tra.underlying102;have hu40:=Tra.underlying104;have HA:=asked_w m A c l s w hr hc hF hS;rw [hp] at HA;have HA:=As0.mk HA;have HR:=As0.mk hr;have HF:=As0.mk hF;have HC:=As0.mk hc;have HT:=As0.mk (show Turn p1 p2 1 from ⟨hd1,hd2,by decide⟩);have hmm:=@run_makeMap Tra.prog;clear hr hF hc hp hS hd1 hd2;go_enter Tra.func32,Tra.ntmps32
 go_wp2_with (first|(go_at_call 57;with_reducible refine HA.out.mono ?_;rintro e w1 ⟨rfl,hb1⟩;have HB1:=As0.mk hb1;clear hb1)|fail)
 have HB2:=As0.mk (y01 (y01 (Below.refl w1.heap.size w1) (.cells #[.int .i64 m,.slice A l.length c] 100)) (.cells #[.int .i64 p1,.int .i64 p2,.int .i64 1] 104));have HB3:=As0.mk (y01 HB2.out (.map #[] 0));have HM:=As0.mk (show Memo m l _ (w1.heap.size+1+1) from (show ((w1.alloc (.cells #[.int .i64 m,.slice A l.length c] 100)).alloc (.cells #[.int .i64 p1,.int .i64 p2,.int .i64 1] 104)).heap.size=w1.heap.size+1+1 from by simp only [asize]) ▸ Memo.made m l ((w1.alloc (.cells #[.int .i64 m,.slice A l.length c] 100)).alloc (.cells #[.int .i64 p1,.int .i64 p2,.int .i64 1] 104)));refine (yew HF.out.m1 HF.out.m9 l 6 p1 p2 1 HT.out (Nat.lt_succ_of_le (cnt_le _ _)) _ (w1.heap.size+1+1) A c HM.out (Kd.C_below (Kd.C_below HR.out HB1.out) HB3.out) HC.out).mono ?_
 rintro e w5 ⟨rfl,hm5,hg5⟩
 have HB5:=As0.mk (show Below w.heap.size w w5 from (y04 HB1.out HB3.out).grown hg5 (by have:=HB1.out.size;have:=HB3.out.size;omega) (fun k hk=>by injection hk with hk;have:=HB1.out.size;omega));obtain ⟨V,hV⟩:∃ V,val m l p1 p2 1=V:=⟨_,rfl⟩
 have HLV:=As0.mk (show Q.ambush_letter.f V=some (y62 V) from yij (hV ▸ val_12 HF.out.m1 HF.out.m9 l HT.out.t HT.out.a HT.out.b));rw [hV];have HVV:=As0.mk hV;clear hm5 hg5 HB2 HB3 HM hV;go_wp2_with fail
 refine (Q.ambush_letter.calls V _ _ HLV.out).mono ?_
 rintro e w6 ⟨rfl,hdr⟩
 have HB6:=As0.mk (y04 HB5.out (y1u hdr));clear hdr;go_wp2_with fail
 go_ret2
 exact ⟨by rw [HVV.out];first|done|rfl,HB6.out⟩
end
section
attribute [local go_sem] y0x y0v y16 y15 y0q y0p y0w y0u
theorem C35 (w:World):Kd.C (Kd.int .i64) (w.alloc (.cells #[.int .i64 3,.int .i64 5] 3)) (some ⟨w.heap.size,0,none⟩) 2 [3,5]:=by
 refine ⟨rfl,by decide,fun _=>⟨_,rfl,fun j p hj=>⟨[.int .i64 p],rfl,rfl,fun i u hu=>?_⟩⟩⟩;have hi:i=0:=by
  rcases i with _|i
  ·rfl
  ·simp at hu
 subst hi;obtain rfl:Value.int .i64 p=u:=by simpa using hu
 have hb:=heap_alloc_new w (.cells #[.int .i64 3,.int .i64 5] 3);have hj2:j<2:=by
  have:=(List.getElem?_eq_some_iff.1 hj).1;simpa using this
 rcases (show j=0∨j=1 by omega) with rfl|rfl
 ·obtain rfl:3=p:=by simpa using hj
  exact (y07 hb 0).trans rfl
 ·obtain rfl:5=p:=by simpa using hj
  exact (y07 hb 1).trans rfl
theorem field35:FieldOK 3 [3,5]:=⟨by decide,by decide,by decide,by decide +kernel⟩
theorem spots35:y9a 3 ⟨#[119,119,100]⟩:=⟨by decide,by decide,by decide⟩
theorem rule35:yhj 3 [3,5]:=by
 refine ⟨by decide,by decide,by decide,?_,?_,?_,?_⟩ <;>
 ·intro i hi
  have hi:i<2:=hi;rcases (show i=0∨i=1 by omega) with rfl|rfl<;>decide +kernel
theorem place35:y1g ⟨#[119,119,100]⟩ (ByteArray.size ⟨#[119,119,100]⟩)=(3,4):=by decide +kernel
theorem yik:y62 (val 3 [3,5] 3 4 1)=⟨#[119]⟩:=by decide +kernel
theorem voted_calls (w:World):Calls Tra.prog 13 #[] w fun e w'=>e=.returned (.bool true)∧Below w.heap.size w w':=by
 have HB0:=As0.mk (y01 (Below.refl w.heap.size w) (.cells #[.int .i64 3,.int .i64 5] 3));go_enter Tra.func13,Tra.ntmps13
 go_wp2_with fail
 refine (yhr 3 (some ⟨w.heap.size,0,none⟩) 2 [3,5] ⟨#[119,119,100]⟩ _ (C35 w) (by decide) field35 spots35 place35 ⟨by decide,by decide⟩ ⟨by decide,by decide⟩).mono ?_
 rintro e w1 ⟨rfl,hb1⟩
 rw [yik];have HB1:=As0.mk (y04 HB0.out hb1);clear hb1 HB0;have HB2:=As0.mk (y01 HB1.out (.cells #[.int .i64 3,.int .i64 5] 3));go_wp2_with fail
 refine (y9x 3 3 (some ⟨w1.heap.size,0,none⟩) 2 [3,5] _ (C35 w1) (by decide) rule35 (by decide) (by decide +kernel)).mono ?_
 rintro e w3 ⟨rfl,hb3⟩
 rw [show win [3,5] 3=true from by decide +kernel];have HB3:=As0.mk (y04 HB2.out hb3);clear hb3 HB1 HB2;go_wp2
 go_ret
 exact ⟨rfl,HB3.out⟩
end
end Go.Proofs.Ytfgcijifdbgpaaa.Tb
namespace Go.Proofs.Ytfgcijifdbgpaaa.P
open Go.RowKit Go.Proofs.YtfgcijifdbgpaaaW.Wd Go.Proofs.YtfgcijifdbgpaaaW.La Go.Proofs.YtfgcijifdbgpaaaW.Mo
section
attribute [local go_sem] y0x y0v y16 y15 y0q y0p y0w y0u
def errW:Option Int->Value
 |none=>.nilIface
 |some c=>.iface 0 (.int .i64 c)
theorem errW_none:errW none=.nilIface:=rfl
theorem errW_some (c:Int):errW (some c)=.iface 0 (.int .i64 c):=rfl
theorem info3:(Tra.prog.info? 3).map (fun i=>(i.zero,i.size,i.bytes))=some (some (.int .i64 0),1,8):=by kernel_rfl
theorem yd2:(Tra.prog.info? 28).map (fun i=>(i.zero,i.size,i.bytes))=some (some (.agg #[(.int .i64 0),(.int .i64 0),(.bool false)]),3,24):=by kernel_rfl
theorem info74:(Tra.prog.info? 74).map (fun i=>(i.zero,i.size,i.bytes))=some (some (.agg #[(.int .i64 0),(.int .i64 0)]),2,16):=by kernel_rfl
structure S74 where
 f0:Int
 f1:Int
def k74:Kd S74:=Kd.iso (Kd.pair (Kd.int .i64) (Kd.int .i64)) (fun x:S74=>(x.f0,x.f1))
theorem yim {w:World} {x:S74} {cs:List Value} (h:k74.K w x cs):cs=[.int .i64 x.f0,.int .i64 x.f1]:=by
 obtain ⟨_,_,rfl,rfl,rfl⟩:=h;exact rfl
theorem k74_mkM (w:World) (base:Nat) (ok:Nat->Prop) (x:S74)  : k74.M w base ok x [.int .i64 x.f0,.int .i64 x.f1]:=⟨[.int .i64 x.f0],[.int .i64 x.f1],rfl,rfl,rfl⟩
def y1s (xs:List (List Int)) (i:Int):(List Int):=xs.getD i.toNat ([]:List Int)
theorem ycb {w:World} {A:Option Addr} {n:Nat} {xs:List (List Int)} (h:Kd.C (Kd.slice 3 (Kd.int .i64)) w A n xs) (i:Int) (h0:0≤i) (h1:i<n):∃ ad A0 c0,A=some ad∧w.cell? (ad.add i.toNat)=some (.slice A0 (y1s xs i).length c0)∧(y1s xs i).length≤c0∧(Kd.int .i64).C w A0 (y1s xs i).length (y1s xs i):=by
 obtain ⟨ad,c,e,_,hK,hc0⟩:=Kd.C_get h ([]:List Int) i h0 h1;have hc:∀ j u,c[j]?=some u->w.cell? (ad.add (i.toNat * 1+j))=some u:=hc0;obtain ⟨A0,c0,rfl,l0,g0⟩:=hK;exact ⟨ad,A0,c0,e,by have hq:=hc 0 _ rfl;rwa [Nat.mul_one,Nat.add_zero] at hq,l0,g0⟩
structure S28 where
 f0:Int
 f1:Int
 f2:Bool
def z28:S28:=⟨(0:Int),(0:Int),false⟩
def k28:Kd S28:=Kd.iso (Kd.pair (Kd.int .i64) (Kd.pair (Kd.int .i64) Kd.bool)) (fun x:S28=>(x.f0,x.f1,x.f2))
theorem yd1 {w:World} {x:S28} {cs:List Value} (h:k28.K w x cs):cs=[.int .i64 x.f0,.int .i64 x.f1,.bool x.f2]:=by
 obtain ⟨_,_,rfl,rfl,⟨_,_,rfl,rfl,rfl⟩⟩:=h;exact rfl
theorem k28_mk (w:World) (x:S28)  : k28.K w x [.int .i64 x.f0,.int .i64 x.f1,.bool x.f2]:=⟨[.int .i64 x.f0],[.int .i64 x.f1,.bool x.f2],rfl,rfl,⟨[.int .i64 x.f1],[.bool x.f2],rfl,rfl,rfl⟩⟩
theorem y22 (w:World) (base:Nat) (ok:Nat->Prop) (x:S28)  : k28.M w base ok x [.int .i64 x.f0,.int .i64 x.f1,.bool x.f2]:=⟨[.int .i64 x.f0],[.int .i64 x.f1,.bool x.f2],rfl,rfl,⟨[.int .i64 x.f1],[.bool x.f2],rfl,rfl,rfl⟩⟩
def y0c (xs:List S28) (i:Int):S28:=xs.getD i.toNat z28
theorem y20 {w:World} {A:Option Addr} {n:Nat} {xs:List S28} (h:Kd.C k28 w A n xs) (i:Int) (h0:0≤i) (h1:i<n):∃ ad , A=some ad∧w.cell? (ad.add (i.toNat * 3))=some (.int .i64 (y0c xs i).f0)∧w.cell? ⟨(ad.add (i.toNat * 3)).block,(ad.add (i.toNat * 3)).off+1,none⟩=some (.int .i64 (y0c xs i).f1)∧w.cell? ⟨(ad.add (i.toNat * 3)).block,(ad.add (i.toNat * 3)).off+2,none⟩=some (.bool (y0c xs i).f2):=by
 obtain ⟨ad,c,e,_,hK,hc0⟩:=Kd.C_get h z28 i h0 h1;have hc:∀ j u,c[j]?=some u->w.cell? (ad.add (i.toNat * 3+j))=some u:=hc0;obtain rfl:=yd1 hK;exact ⟨ad,e,hc 0 _ rfl,by rw [← yaw _ _ 1 (by omega)];exact hc 1 _ rfl,by rw [← yaw _ _ 2 (by omega)];exact hc 2 _ rfl⟩
end
section
attribute [local go_sem] y0x y0v y16 y15 y0q y0p y0w y0u
def mobs_number_2_int.f (l0:List S74):Option (List Int):=if (∀ p ∈ l0,Ext.In64 p.f0∧Ext.In64 p.f1)∧l0.length<17592186044416 then some (Ext.numL (l0.map fun p=>(p.f0,p.f1))) else none
theorem yg0 {w:World} {A:Option Addr} {l:List S74} (h:Kd.C k74 w A l.length l):Ext.Reads2 w A (l.map fun p=>(p.f0,p.f1)):=by
 intro hn;rw [List.length_map] at hn;obtain ⟨ad,hA,hc⟩:=h.2.2 hn;refine ⟨ad,hA,fun j p hj=>?_⟩;rw [List.getElem?_map] at hj;obtain ⟨q,hq,rfl⟩:=Option.map_eq_some_iff.1 hj;obtain ⟨c,hs,hr,hcell⟩:=hc j q hq;obtain rfl:=yim hr;have e:k74.sz=2:=rfl;rw [e] at hcell;exact ⟨hcell 0 _ rfl,hcell 1 _ rfl⟩
theorem mobs_number_2_int.own (A0:Option Addr) (c0:Nat) (l0:List S74) (r1:List Int) (w:World) (hr0:Kd.C k74 w A0 l0.length l0) (hc0:l0.length≤c0) (h:mobs_number_2_int.f l0=some r1) :
  Calls Tra.prog 50 #[.slice A0 l0.length c0] w fun e w'=>∃ v0_:Value,e=.returned v0_∧Ext.OwnI w' w.heap.size v0_ r1∧Below w.heap.size w w':=by
 unfold mobs_number_2_int.f at h;split at h
 ·rename_i hL
  obtain rfl:=zSi h;exact (by have:=Ext.num2_all A0 c0 (l0.map fun p=>(p.f0,p.f1)) w (yg0 hr0) (by simpa using hL.1) (by simpa using hL.2);rwa [List.length_map] at this)
 ·cases h
theorem mobs_number_2_int.calls (A0:Option Addr) (c0:Nat) (l0:List S74) (r1:List Int) (w:World) (hr0:Kd.C k74 w A0 l0.length l0) (hc0:l0.length≤c0) (h:mobs_number_2_int.f l0=some r1) :
  Calls Tra.prog 50 #[.slice A0 l0.length c0] w fun e w'=>∃ v0_:Value,e=.returned v0_∧Kd.R (Kd.int .i64) 3 w' w.heap.size (fun _=>True) v0_ r1∧Below w.heap.size w w':=by
 refine (mobs_number_2_int.own A0 c0 l0 r1 w hr0 hc0 h).mono ?_
 rintro e w' ⟨v,he,hO,hB⟩
 exact ⟨v,he,hO.toR,hB⟩
def mobs_below.l0:Nat->List Int->List Int->List (S74)->Int->Int->Option (List Int)
 |0,_,_,_,_,_=>none
 |k+1,x0,x1,x5,x8,x9=>if x9<x8 then (if 0≤x9 then (if x9<(x0.length:Int) then (if x9<(x1.length:Int) then (if x5.length<8796093022208 then (mobs_below.l0 k x0 x1 (x5 ++ [(⟨rd x0 x9,rd x1 x9⟩:S74)]) x8 (wrap64 (x9+1))) else (none)) else (none)) else (none)) else (none)) else ((mobs_number_2_int.f x5).bind fun t106=>(some t106))
def mobs_below.f (k:Nat) (l0:List Int) (l1:List Int):Option (List Int):=mobs_below.l0 k l0 l1 ([]:List (S74)) (l0.length:Int) 0
def mobs_below.T5:Bool × List (List Nat × List Nat):=(true,[([],[]),([],[]),([],[]),([1,2],[1,2]),([3],[3]),([],[]),([],[]),([5,6],[5,6]),([7],[7]),([4,8],[4,8]),([9],[9]),([0,10],[0,10]),([11,11,0,1,2,3,4,5,6,7,8,9,10,11],[0,11])])
def mobs_below.B5:List Nat:=[0,0,0,6,14,0,0,96,224,510,1022,2047,4095]
theorem mobs_below.tab5:rtab .any (ygd Tra.f24 5)=mobs_below.T5:=by kernel_rfl
theorem mobs_below.bits5:y3j mobs_below.T5.2 mobs_below.B5=true:=by kernel_rfl
theorem mobs_below.flat (k:Nat) (A0:Option Addr) (c0:Nat) (l0:List Int) (A1:Option Addr) (c1:Nat) (l1:List Int) (r:List Int) (w:World) (hr0:Kd.C (Kd.int .i64) w A0 l0.length l0) (hc0:l0.length≤c0) (hr1:Kd.C (Kd.int .i64) w A1 l1.length l1) (hc1:l1.length≤c1) (h:mobs_below.f k l0 l1=some r) :
  Calls Tra.prog 24 #[.slice A0 l0.length c0,.slice A1 l1.length c1] w fun e w'=>∃ v0_:Value,e=.returned (v0_)∧Ext.OwnI w' w.heap.size v0_ r∧Below w.heap.size w w':=by
 have hu74:=Tra.underlying74;have HR0:=As0.mk hr0;have HC0:=As0.mk hc0;clear hr0 hc0;have HR1:=As0.mk hr1;have HC1:=As0.mk hc1;clear hr1 hc1;have HB:=As0.mk (Below.refl w.heap.size w);have H:(mobs_below.l0 k l0 l1 ([]:List (S74)) (l0.length:Int) 0)=some r:=h;clear h;have H':=As0.mk H;clear H;go_enter Tra.func24,Tra.ntmps24
 go_wp2
 go_loopg [5,9] k (fun kq v5 v9 w'=>∃ (x5_1:List (S74)) (x9_1:Int),v9=.int .i64 x9_1∧As0 (mobs_below.l0 kq l0 l1 x5_1 (l0.length:Int) x9_1=some r)∧As0 (kq≤k)∧As0 (Kd.R k74 74 w' w.heap.size (fun _=>True) v5 x5_1)∧As0 (Below w.heap.size w w'))
 case atStart=>exact ⟨(([]:List (S74))),(0),(by first|rfl|(simp;done)|(simp [*];done)),H',⟨zLe _⟩,⟨by first|exact Kd.R_nil _ _ _ _ _|exact Kd.N_nil _ _ _ _ _|exact Kd.V_nil _ _ _ _ _|exact Kd.Q_nil _ _ _ _ _|exact Kd.S_nil _ _ _ _ _⟩,⟨by repeat (with_reducible first|exact HB.out|apply y01|apply y00|apply y02)⟩⟩
 case round =>
  clear H'
  try clear c1
  try clear c2
  try clear p2
  obtain ⟨x5_1,x9_1,rfl,HA,HK1,HO_5,HB⟩:=hrel;cases gk with
  |zero=>exact absurd HA.out (by simp [mobs_below.l0])
  |succ k1 =>
   have H:=HA.out;clear HA;simp only [mobs_below.l0] at H
   by_cases c3:x9_1<(l0.length:Int)
   ·rw [if_pos c3] at H
    have c3b0:decide (x9_1<(l0.length:Int))=true:=zDt c3;clear c3
    by_cases c4:0≤x9_1
    ·rw [if_pos c4] at H
     have c4b0:decide (0≤x9_1)=true:=zDt c4;clear c4
     by_cases c5:x9_1<(l0.length:Int)
     ·rw [if_pos c5] at H
      have c5b0:decide (x9_1<(l0.length:Int))=true:=zDt c5;clear c5
      by_cases c6:x9_1<(l1.length:Int)
      ·rw [if_pos c6] at H
       have c6b0:decide (x9_1<(l1.length:Int))=true:=zDt c6;clear c6
       by_cases c7:x5_1.length<8796093022208
       ·rw [if_pos c7] at H
        have LMc7:=As0.mk c7;clear c7;obtain ⟨y103,hy103⟩:∃ y_:List (S74),y_=(x5_1 ++ [(⟨rd l0 x9_1,rd l1 x9_1⟩:S74)]):=⟨_,rfl⟩
        replace H:(mobs_below.l0 k1 l0 l1 y103 (l0.length:Int) (wrap64 (x9_1+1)))=some r:=by first|(rw [hy103];with_reducible exact H)|(have H2_:=(Option.bind_some _ _).symm.trans H;rw [hy103];with_reducible exact H2_)|(have H2_:=(Option.bind_some _ _).symm.trans H;with_reducible exact H2_)|with_reducible exact H|(rw [hy103];exact H)|exact H
        have Ny103:=As0.mk hy103;clear hy103;have H':=As0.mk H;clear H
        try go_wp2
        have n0_:=As0.mk (Kd.R_drew HO_5.out);have n1_:=As0.mk (y02 HB.out);clear HO_5;clear HB;have HO_5:=n0_;have HB:=n1_;clear n0_ n1_;have p101:0≤(x9_1:Int):=zDo (by with_reducible assumption);have q101:x9_1<(l0.length:Int):=zDo (by with_reducible assumption);obtain ⟨ad101,e101,hx101_0⟩:=Kd.at_int HR0.out x9_1 p101 q101;have hw101_0:=hx101_0;cases e101
        replace hx101_0:=(HB.out.cell (World.block_lt_of_cell? w _ hx101_0)).trans hx101_0;replace p101:=eq_true p101;replace q101:=eq_true q101;have p102:0≤(x9_1:Int):=zDo (by with_reducible assumption);have q102:x9_1<(l1.length:Int):=zDo (by with_reducible assumption);obtain ⟨ad102,e102,hx102_0⟩:=Kd.at_int HR1.out x9_1 p102 q102;have hw102_0:=hx102_0;cases e102
        replace hx102_0:=(HB.out.cell (World.block_lt_of_cell? w _ hx102_0)).trans hx102_0;replace p102:=eq_true p102;replace q102:=eq_true q102;refine y2d (n:=13) (S:=fun w'=>w'.cell? (ad101.add (x9_1).toNat)=some (.int .i64 (rd l0 x9_1))∧w'.cell? (ad102.add (x9_1).toNat)=some (.int .i64 (rd l1 x9_1))) (ds:=[]) #[false,false,false,false,false,false,false,false,false,false,false,false,false] (by kernel_rfl) rfl rfl ⟨((HB.out.cell (World.block_lt_of_cell? w _ hw101_0)).trans hw101_0),((HB.out.cell (World.block_lt_of_cell? w _ hw102_0)).trans hw102_0)⟩ (fun hHeld=>?_);refine y25 mobs_below.tab5 mobs_below.bits5 (fun HT_ HW_=>?_);generalize wr.drew=w8 at HO_5 HB hx101_0 hx102_0 hHeld ⊢;refine y0e (i:=0) (N:=some 12) (v:=?_) (a':=?_) #[true,false,false,false,false,false,false,false,false,false,false,false,false] rfl rfl (y0i HT_.out (by kernel_rfl)) (fun _ _ _ h=>h) (Or.inl ⟨by rfl,?_⟩) ?_ ?_;rotate_left
        ·intro w'
         go_simp
         with_reducible rfl
        rotate_left
        ·simp only [Act.put,List.setIfInBounds_toArray,List.set_cons_zero,List.set_cons_succ,y0a,y0b]
         rfl
        refine y0e (i:=1) (N:=some 13) (v:=?_) (a':=?_) #[true,true,false,false,false,false,false,false,false,false,false,false,false] rfl rfl (y0i HT_.out (by kernel_rfl)) (fun _ _ _ h=>h) (Or.inl ⟨by rfl,?_⟩) ?_ ?_;rotate_left
        ·intro w'
         go_simp
         with_reducible rfl
        rotate_left
        ·simp only [Act.put,List.setIfInBounds_toArray,List.set_cons_zero,List.set_cons_succ,y0a,y0b]
         rfl
        refine y0e (i:=2) (N:=some 14) (v:=?_) (a':=?_) #[true,true,true,false,false,false,false,false,false,false,false,false,false] rfl rfl (y0i HT_.out (by kernel_rfl)) (fun _ _ _ h=>h) (Or.inl ⟨by rfl,?_⟩) ?_ ?_;rotate_left
        ·intro w'
         go_simp
         with_reducible rfl
        rotate_left
        ·simp only [Act.put,List.setIfInBounds_toArray,List.set_cons_zero,List.set_cons_succ,y0a,y0b]
         rfl
        refine y0e (i:=3) (N:=some 15) (v:=?_) (a':=?_) #[true,true,true,true,false,false,false,false,false,false,false,false,false] rfl rfl (y0i HT_.out (by kernel_rfl)) (fun _ _ _ h=>h) (Or.inl ⟨by rfl,?_⟩) ?_ ?_;rotate_left
        ·intro w'
         go_simp
         with_reducible rfl
        rotate_left
        ·simp only [Act.put,List.setIfInBounds_toArray,List.set_cons_zero,List.set_cons_succ,y0a,y0b]
         rfl
        refine y0e (i:=5) (N:=some 17) (v:=?_) (a':=?_) #[true,true,true,true,false,true,false,false,false,false,false,false,false] rfl rfl (y0i HT_.out (by kernel_rfl)) (fun _ _ _ h=>h) (Or.inl ⟨by rfl,?_⟩) ?_ ?_;rotate_left
        ·intro w'
         go_simp
         with_reducible rfl
        rotate_left
        ·simp only [Act.put,List.setIfInBounds_toArray,List.set_cons_zero,List.set_cons_succ,y0a,y0b]
         rfl
        refine y0e (i:=6) (N:=some 18) (v:=?_) (a':=?_) #[true,true,true,true,false,true,true,false,false,false,false,false,false] rfl rfl (y0i HT_.out (by kernel_rfl)) (fun _ _ _ h=>h) (Or.inl ⟨by rfl,?_⟩) ?_ ?_;rotate_left
        ·intro w'
         go_simp
         with_reducible rfl
        rotate_left
        ·simp only [Act.put,List.setIfInBounds_toArray,List.set_cons_zero,List.set_cons_succ,y0a,y0b]
         rfl
        refine y0e (i:=7) (N:=some 19) (v:=?_) (a':=?_) #[true,true,true,true,false,true,true,true,false,false,false,false,false] rfl rfl (y0i HT_.out (by kernel_rfl)) (fun _ _ _ h=>h) (Or.inl ⟨by rfl,?_⟩) ?_ ?_;rotate_left
        ·intro w'
         go_simp
         with_reducible rfl
        rotate_left
        ·simp only [Act.put,List.setIfInBounds_toArray,List.set_cons_zero,List.set_cons_succ,y0a,y0b]
         rfl
        refine y1l (i:=4) (N:=some 16) (v:=?_) (a':=?_) #[true,true,true,true,true,true,true,true,false,false,false,false,false] rfl rfl (y1k HT_.out HW_.out (by kernel_rfl)) (fun _ _ _ h=>h) (Or.inl ⟨by rfl,?_⟩) hHeld ?_ ?_;rotate_left
        ·rintro w' ⟨s0,s1⟩
         go_simp
         with_reducible rfl
        rotate_left
        ·simp only [Act.put,List.setIfInBounds_toArray,List.set_cons_zero,List.set_cons_succ,y0a,y0b]
         rfl
        refine y1l (i:=8) (N:=some 20) (v:=?_) (a':=?_) #[true,true,true,true,true,true,true,true,true,false,false,false,false] rfl rfl (y1k HT_.out HW_.out (by kernel_rfl)) (fun _ _ _ h=>h) (Or.inl ⟨by rfl,?_⟩) hHeld ?_ ?_;rotate_left
        ·rintro w' ⟨s0,s1⟩
         go_simp
         with_reducible rfl
        rotate_left
        ·simp only [Act.put,List.setIfInBounds_toArray,List.set_cons_zero,List.set_cons_succ,y0a,y0b]
         rfl
        refine y0e (i:=9) (N:=some 21) (v:=?_) (a':=?_) #[true,true,true,true,true,true,true,true,true,true,false,false,false] rfl rfl (y0i HT_.out (by kernel_rfl)) (fun _ _ _ h=>h) (Or.inl ⟨by rfl,?_⟩) ?_ ?_;rotate_left
        ·intro w'
         go_simp
         with_reducible rfl
        rotate_left
        ·simp only [Act.put,List.setIfInBounds_toArray,List.set_cons_zero,List.set_cons_succ,y0a,y0b]
         rfl
        refine one_ (i:=10) (N:=some 22) #[true,true,true,true,true,true,true,true,true,true,true,false,false] rfl rfl (y4j HT_.out (by kernel_rfl)) (by decide) (fun K hK=>?_);refine yf0 (w1:=?_) (v:=?_) (by rfl) rfl ?_ ?_;rotate_left 2
        ·go_simp
         constructor
         ·rfl
         ·rfl
        refine hK.out _ _ ⟨(World.cell?_alloc_lt _ _ _ (World.block_lt_of_cell? _ _ (((HB.out.cell (World.block_lt_of_cell? w _ hw101_0)).trans hw101_0)))).trans (((HB.out.cell (World.block_lt_of_cell? w _ hw101_0)).trans hw101_0)),(World.cell?_alloc_lt _ _ _ (World.block_lt_of_cell? _ _ (((HB.out.cell (World.block_lt_of_cell? w _ hw102_0)).trans hw102_0)))).trans (((HB.out.cell (World.block_lt_of_cell? w _ hw102_0)).trans hw102_0))⟩ (fun hHeld=>?_);clear hK K;refine y43 (a':=?_) ?_ ?_;rotate_left
        ·show Act.put _ (some 22) _=_
         simp only [Act.put,List.setIfInBounds_toArray,List.set_cons_zero,List.set_cons_succ,y0a,y0b];rfl
        refine one_ (i:=11) (N:=some 23) #[true,true,true,true,true,true,true,true,true,true,true,true,false] rfl rfl (y4j HT_.out (by kernel_rfl)) (by decide) (fun K hK=>?_);refine Kd.R_append_step k74 (w0:=w) w.heap.size (by rfl) (.tmp 12) (.tmp 22) 94 74 (.agg #[(.int .i64 0),(.int .i64 0)]) 16 rfl Tra.underlying94 info74 rfl (by decide) (by omega) u5 x5_1 (⟨rd l0 x9_1,rd l1 x9_1⟩:S74) [.int .i64 (rd l0 x9_1),.int .i64 (rd l1 x9_1)] (fun _=>True) (fun _=>False) rfl rfl ?aP (fun _ hk=>hk.elim) ?aF ?aO ?aB ?aS ?aL ?_
        (case aP=>exact k74_mkM _ _ _ (⟨rd l0 x9_1,rd l1 x9_1⟩:S74))
        (case aB=>exact (by repeat (with_reducible first|exact HB.out|apply y01|apply y00|apply y02)))
        (case aF=>exact (fun _ _=>trivial))
        (case aO=>exact (by (with_reducible repeat (first|apply Kd.R_alloc|apply Kd.R_drewN|apply Kd.R_drew));exact HO_5.out))
        (case aS=>exact (y05 (by repeat (with_reducible first|exact HB.out|apply y01|apply y00|apply y02))))
        (case aL=>have:=LMc7.out;omega)
        intro v104 w9 ho hb hg hat;rw [← Ny103.out] at ho;have n0_:=As0.mk (hb);have n1_:=As0.mk (ho);clear HB;clear HO_5;have HB:=n0_;have HO105:=n1_;clear n0_ n1_;clear ho hb hg hat;refine hK.out _ _ ⟨((HB.out.cell (World.block_lt_of_cell? w _ hw101_0)).trans hw101_0),((HB.out.cell (World.block_lt_of_cell? w _ hw102_0)).trans hw102_0)⟩ (fun hHeld=>?_);clear hK K;refine y43 (a':=?_) ?_ ?_;rotate_left
        ·show Act.put _ (some 23) _=_
         simp only [Act.put,List.setIfInBounds_toArray,List.set_cons_zero,List.set_cons_succ,y0a,y0b];rfl
        refine y0e (i:=12) (N:=some 5) (v:=?_) (a':=?_) #[true,true,true,true,true,true,true,true,true,true,true,true,true] rfl rfl (y0i HT_.out (by kernel_rfl)) (fun _ _ _ h=>h) (Or.inl ⟨by rfl,?_⟩) ?_ ?_;rotate_left
        ·intro w'
         go_simp
         with_reducible rfl
        rotate_left
        ·simp only [Act.put,List.setIfInBounds_toArray,List.set_cons_zero,List.set_cons_succ,y0a,y0b]
         rfl
        refine y3x (y3p HT_.out (by kernel_rfl)) ?_
        try go_wp2
        go_roundg k1
        case measure=>have:=HK1.out;omega
        case rel=>exact ⟨(y103),(wrap64 (x9_1+1)),(by first|rfl|(simp;done)|(simp [*];done)),H',⟨by have:=HK1.out;omega⟩,⟨by (with_reducible repeat (first|apply Kd.R_alloc|apply Kd.R_drewN|apply Kd.R_drew));exact HO105.out⟩,⟨by repeat (with_reducible first|exact HB.out|apply y01|apply y00|apply y02)⟩⟩
       ·rw [if_neg c7] at H
        exact absurd H (by simp)
      ·rw [if_neg c6] at H
       exact absurd H (by simp)
     ·rw [if_neg c5] at H
      exact absurd H (by simp)
    ·rw [if_neg c4] at H
     exact absurd H (by simp)
   ·rw [if_neg c3] at H
    have c3b0:decide (x9_1<(l0.length:Int))=false:=zDf c3;clear c3;replace H:=Option.bind_eq_some_iff.mp H;obtain ⟨t106,A100,H⟩:=H;replace H:(some t106)=some r:=H;have A10:=As0.mk A100;clear A100;obtain rfl:=zSi H;obtain ⟨Ao11,co11,eo11⟩:=Kd.R_slice HO_5.out;subst eo11;go_wp2_with (first|((with_reducible refine y08 (f:=50) rfl ?_);refine y0n (some 26) rfl rfl Tra.func50 (by kernel_rfl) rfl #[.slice Ao11 x5_1.length co11] rfl (by (try simp only [List.map_toArray,List.map_cons,List.map_nil]);first|done|rfl|(simp only [List.length_drop,List.length_take];rfl)) ?_;(with_reducible refine (mobs_number_2_int.own _ _ x5_1 t106 _ ?side1 ?side2 A10.out).mono ?_);(case side1=>repeat (first|exact (Kd.R_reads' HO_5.out).2.2|(with_reducible refine Kd.C_alloc ?_ _)|(with_reducible refine Kd.C_drewN ?_ _)|(with_reducible refine Kd.C_drew ?_)));(case side2=>exact (Kd.R_reads' HO_5.out).2.1);rintro e w12 ⟨v107,rfl,hoI_,hb⟩;have HOI_:=As0.mk (hoI_.lower (y05 (by repeat (with_reducible first|exact HB.out|apply y01|apply y00|apply y02))));have ho0:=hoI_.toR;clear hoI_;refine ⟨_,rfl,?_⟩;have n0_:=As0.mk (Kd.R_below (by (with_reducible repeat (first|apply Kd.R_alloc|apply Kd.R_drewN|apply Kd.R_drew));exact HO_5.out) hb);have n1_:=As0.mk (Kd.R_lower ho0 (y05 (by repeat (with_reducible first|exact HB.out|apply y01|apply y00|apply y02))));have n2_:=As0.mk (y04 (by repeat (with_reducible first|exact HB.out|apply y01|apply y00|apply y02)) hb);clear HO_5;clear HB;have HO_5:=n0_;have HO108:=n1_;have HB:=n2_;clear n0_ n1_ n2_;(try clear hb);(try clear hb2);(try clear hk);(try clear hi);(try clear ho0)))
    go_ret
    exact ⟨_,by first|rfl|(simp [errW_none,errW_some]<;>rfl)|(simp [*,errW_none,errW_some]<;>rfl),HOI_.out,by repeat (with_reducible first|exact HB.out|apply y01|apply y00|apply y02)⟩
theorem mobs_below.calls (k:Nat) (A0:Option Addr) (c0:Nat) (l0:List Int) (A1:Option Addr) (c1:Nat) (l1:List Int) (r:List Int) (w:World) (hr0:Kd.C (Kd.int .i64) w A0 l0.length l0) (hc0:l0.length≤c0) (hr1:Kd.C (Kd.int .i64) w A1 l1.length l1) (hc1:l1.length≤c1) (h:mobs_below.f k l0 l1=some r) :
  Calls Tra.prog 24 #[.slice A0 l0.length c0,.slice A1 l1.length c1] w fun e w'=>∃ v0_:Value,e=.returned (v0_)∧Kd.R (Kd.int .i64) 3 w' w.heap.size (fun _=>True) v0_ r∧Below w.heap.size w w':=(mobs_below.flat k A0 c0 l0 A1 c1 l1 r w hr0 hc0 hr1 hc1 h).mono fun e w' ⟨v,he,hO,hB⟩=>⟨v,he,hO.toR,hB⟩
def mobs_number_int.f (l0:List Int):Option (List Int):=if (∀ x ∈ l0,Ext.In64 x)∧l0.length<17592186044416 then some (Ext.numL l0) else none
theorem mobs_number_int.calls (A0:Option Addr) (c0:Nat) (l0:List Int) (r1:List Int) (w:World) (hr0:Kd.C (Kd.int .i64) w A0 l0.length l0) (hc0:l0.length≤c0) (h:mobs_number_int.f l0=some r1) :
  Calls Tra.prog 19 #[.slice A0 l0.length c0] w fun e w'=>∃ v0_:Value,e=.returned v0_∧Kd.R (Kd.int .i64) 3 w' w.heap.size (fun _=>True) v0_ r1∧Below w.heap.size w w':=by
 unfold mobs_number_int.f at h;split at h
 ·rename_i hL
  obtain rfl:=zSi h;exact Ext.num_calls A0 c0 l0 w hr0 hc0 hL.1 hL.2
 ·cases h
def mobs_above.f (l0:List Int) (l1:List Int):Option (List Int):=if l0.length=l1.length∧(∀ x ∈ l0,Ext.In64 x)∧l0.length<17592186044416 then some (Ext.aboveL l0 l1) else none
theorem mobs_above.own (A0:Option Addr) (c0:Nat) (l0:List Int) (A1:Option Addr) (c1:Nat) (l1:List Int) (r1:List Int) (w:World) (hr0:Kd.C (Kd.int .i64) w A0 l0.length l0) (hc0:l0.length≤c0) (hr1:Kd.C (Kd.int .i64) w A1 l1.length l1) (hc1:l1.length≤c1) (h:mobs_above.f l0 l1=some r1) :
  Calls Tra.prog 26 #[.slice A0 l0.length c0,.slice A1 l1.length c1] w fun e w'=>∃ v0_:Value,e=.returned v0_∧Ext.OwnI w' w.heap.size v0_ r1∧Below w.heap.size w w':=by
 unfold mobs_above.f at h;split at h
 ·rename_i hL
  obtain rfl:=zSi h;exact Ext.above_all A0 c0 l0 A1 c1 l1 w hr0 hr1 hL.1 hL.2.1 hL.2.2
 ·cases h
theorem mobs_above.calls (A0:Option Addr) (c0:Nat) (l0:List Int) (A1:Option Addr) (c1:Nat) (l1:List Int) (r1:List Int) (w:World) (hr0:Kd.C (Kd.int .i64) w A0 l0.length l0) (hc0:l0.length≤c0) (hr1:Kd.C (Kd.int .i64) w A1 l1.length l1) (hc1:l1.length≤c1) (h:mobs_above.f l0 l1=some r1) :
  Calls Tra.prog 26 #[.slice A0 l0.length c0,.slice A1 l1.length c1] w fun e w'=>∃ v0_:Value,e=.returned v0_∧Kd.R (Kd.int .i64) 3 w' w.heap.size (fun _=>True) v0_ r1∧Below w.heap.size w w':=by
 refine (mobs_above.own A0 c0 l0 A1 c1 l1 r1 w hr0 hc0 hr1 hc1 h).mono ?_
 rintro e w' ⟨v,he,hO,hB⟩
 exact ⟨v,he,hO.toR,hB⟩
end
end Go.Proofs.Ytfgcijifdbgpaaa.P
