/- The theorem of TopJoined, proved; part 6 of 7: its texts, merged. -/
import Derived.Test.YtfgcijifdbgpaaaVjE
import Derived.Conc.LeavingOf
import Derived.Deep.Slices
import Derived.ChangeSame
import Derived.ChangeArms
set_option linter.unnecessarySimpa false
set_option linter.defProp false
set_option linter.unusedVariables false
set_option linter.unusedSimpArgs false
set_option linter.unusedSectionVars false
set_option linter.constructorNameAsVariable false
set_option maxRecDepth 100000
set_option maxHeartbeats 8000000
namespace Go.Proofs.Ytfgcijifdbgpaaa.P
open Go.RowKit Go.Proofs.YtfgcijifdbgpaaaW.Wd Go.Proofs.YtfgcijifdbgpaaaW.La Go.Proofs.YtfgcijifdbgpaaaW.Mo
attribute [local go_sem] y0x y0v y16 y15 y0q y0p y0w y0u
mutual
def drovewaytop_TopJoined.l0:Nat->Int->List (S28)->Int->List (S28)->List (S28)->List (S28)->Int->Option (Bool)
 |0,_,_,_,_,_,_,_=>none
 |k+1,x0,x1,x2,x7,x8,x9,x10=>if x10<(x1.length:Int) then (if 0≤x10 then (if x7.length<5864062014805 then ((some (x7 ++ [(⟨(y0c x1 x10).f0,(y0c x1 x10).f1,false⟩:S28)]:List (S28))).bind fun y227=>(if (Int.tmod (shr .u32 x2 x10) 2)=1 then (if x8.length<5864062014805 then (drovewaytop_TopJoined.l0 k x0 x1 x2 y227 (x8 ++ [(⟨(y0c x1 x10).f0,(y0c x1 x10).f1,false⟩:S28)]) x9 (wrap64 (x10+1))) else (none)) else (if x9.length<5864062014805 then (drovewaytop_TopJoined.l0 k x0 x1 x2 y227 x8 (x9 ++ [(⟨(y0c x1 x10).f0,(y0c x1 x10).f1,false⟩:S28)]) (wrap64 (x10+1))) else (none)))) else (none)) else (none)) else ((feuds_Clans.f k x0 x7).bind fun bt236=>((feuds_Clans.f k x0 x8).bind fun bt240=>((feuds_Clans.f k x0 x9).bind fun bt244=>(if bt236.2=0 then (if bt240.2=0 then (drovewaytop_TopJoined.j1 k x0 bt236.1 bt240.1 bt244.1 (bt244.2 != 0)) else (drovewaytop_TopJoined.j1 k x0 bt236.1 bt240.1 bt244.1 true)) else (drovewaytop_TopJoined.j1 k x0 bt236.1 bt240.1 bt244.1 true)))))
def drovewaytop_TopJoined.j1:Nat->Int->List Int->List Int->List Int->Bool->Option (Bool)
 |0,_,_,_,_,_=>none
 |k+1,x0,x12,x14,x16,x94=>if x94=true then (some false) else ((drovewaytop_parting.f k x0 x12).bind fun t248=>((mobs_Number.f t248).bind fun bt251=>((drovewaytop_parting.f k x0 x14).bind fun t255=>((mobs_Number.f t255).bind fun bt258=>((drovewaytop_parting.f k x0 x16).bind fun t262=>((mobs_Number.f t262).bind fun bt265=>((mobs_Meet.f k bt258.1 bt265.1).bind fun bt269=>(if bt251.2=0 then (if bt258.2=0 then (if bt265.2=0 then (if bt269.2.2=0 then (if (bt251.1.length:Int)=x0 then (drovewaytop_TopJoined.j2 k x0 bt251.1 bt269.2.1 ((bt269.2.1.length:Int) != x0)) else (drovewaytop_TopJoined.j2 k x0 bt251.1 bt269.2.1 true)) else (drovewaytop_TopJoined.j2 k x0 bt251.1 bt269.2.1 true)) else (drovewaytop_TopJoined.j2 k x0 bt251.1 bt269.2.1 true)) else (drovewaytop_TopJoined.j2 k x0 bt251.1 bt269.2.1 true)) else (drovewaytop_TopJoined.j2 k x0 bt251.1 bt269.2.1 true)))))))))
def drovewaytop_TopJoined.j2:Nat->Int->List Int->List Int->Bool->Option (Bool)
 |0,_,_,_,_=>none
 |k+1,x0,x18,x25,x148=>if x148=true then (some false) else (drovewaytop_TopJoined.l1 k x0 x18 x25 0)
def drovewaytop_TopJoined.l1:Nat->Int->List Int->List Int->Int->Option (Bool)
 |0,_,_,_,_=>none
 |k+1,x0,x18,x25,x27=>if x27<x0 then (if 0≤x27 then (if x27<(x18.length:Int) then (if x27<(x25.length:Int) then (if (rd x18 x27)=(rd x25 x27) then (drovewaytop_TopJoined.l1 k x0 x18 x25 (wrap64 (x27+1))) else (some false)) else (none)) else (none)) else (none)) else ((drovewaytop_parted.f k).bind fun t278=>(some t278))
end
def drovewaytop_TopJoined.f (k:Nat) (a0:Int) (l1:List (S28)) (a2:Int):Option (Bool):=(drovewayref09_Ties.f k a0 l1).bind fun t222=>(if t222=0 then (drovewaytop_TopJoined.l0 k a0 l1 a2 ([]:List (S28)) ([]:List (S28)) ([]:List (S28)) 0) else ((drovewaytop_parted.f k).bind fun t223=>(some t223)))
def drovewaytop_TopJoined.T7:Bool × List (List Nat × List Nat):=(true,[([],[]),([],[]),([0,1],[0,1]),([2],[2]),([3],[3]),([],[]),([],[]),([5,6],[5,6]),([7],[7]),([8],[8]),([4,9],[4,9]),([],[]),([11,10,0,1,2,3,4,5,6,7,8,9,10,11],[10,11])])
def drovewaytop_TopJoined.B7:List Nat:=[0,0,3,7,15,0,0,96,224,480,1023,0,4095]
theorem drovewaytop_TopJoined.tab7:rtab .any (ygd Tra.f3 7)=drovewaytop_TopJoined.T7:=by kernel_rfl
theorem drovewaytop_TopJoined.bits7:y3j drovewaytop_TopJoined.T7.2 drovewaytop_TopJoined.B7=true:=by kernel_rfl
def drovewaytop_TopJoined.T26:Bool × List (List Nat × List Nat):=(true,[([],[]),([],[]),([0,1],[0,1]),([2],[2]),([],[]),([],[]),([4,5],[4,5]),([6],[6]),([3,7],[3,7])])
def drovewaytop_TopJoined.B26:List Nat:=[0,0,3,7,0,0,48,112,255]
theorem drovewaytop_TopJoined.tab26:rtab .any (ygd Tra.f3 26)=drovewaytop_TopJoined.T26:=by kernel_rfl
theorem drovewaytop_TopJoined.bits26:y3j drovewaytop_TopJoined.T26.2 drovewaytop_TopJoined.B26=true:=by kernel_rfl
theorem drovewaytop_TopJoined.calls (k:Nat) (a0:Int) (A1:Option Addr) (c1:Nat) (l1:List (S28)) (a2:Int) (r:Bool) (w:World) (hr1:Kd.C k28 w A1 l1.length l1) (hc1:l1.length≤c1) (h:drovewaytop_TopJoined.f k a0 l1 a2=some r) :
  Calls Tra.prog 3 #[.int .i64 a0,.slice A1 l1.length c1,.int .u32 a2] w fun e w'=>e=.returned (.bool r)∧Below w.heap.size w w':=by
 have hu28:=Tra.underlying28;have HR1:=As0.mk hr1;have HC1:=As0.mk hc1;clear hr1 hc1;have HB:=As0.mk (Below.refl w.heap.size w);have H:((drovewayref09_Ties.f k a0 l1).bind fun t222=>(if t222=0 then (drovewaytop_TopJoined.l0 k a0 l1 a2 ([]:List (S28)) ([]:List (S28)) ([]:List (S28)) 0) else ((drovewaytop_parted.f k).bind fun t223=>(some t223))))=some r:=h;clear h;replace H:=Option.bind_eq_some_iff.mp H;obtain ⟨t222,A40,H⟩:=H;replace H:(if t222=0 then (drovewaytop_TopJoined.l0 k a0 l1 a2 ([]:List (S28)) ([]:List (S28)) ([]:List (S28)) 0) else ((drovewaytop_parted.f k).bind fun t223=>(some t223)))=some r:=H;have A4:=As0.mk A40;clear A40
 by_cases c5:t222=0
 ·rw [if_pos c5] at H
  have c5b0:(t222 == 0)=true:=beq_iff_eq.mpr c5;have c5b1:(t222 != 0)=false:=bne_eq_false_iff_eq.mpr c5;clear c5;have H':=As0.mk H;clear H;go_enter Tra.func3,Tra.ntmps3
  go_wp2_with (((with_reducible refine y08 (f:=4) rfl ?_);refine y0n (some 30) rfl rfl Tra.func4 (by kernel_rfl) rfl #[.int .i64 a0,.slice A1 l1.length c1] rfl (by (try simp only [List.map_toArray,List.map_cons,List.map_nil]);rfl) ?_;(with_reducible refine (drovewayref09_Ties.calls k a0 _ _ l1 t222 _ ?side1 ?side2 A4.out).mono ?_);(case side1=>repeat (exact HR1.out));(case side2=>exact HC1.out);rintro e w' ⟨rfl,⟨nd,rfl⟩⟩;refine ⟨_,rfl,?_⟩))
  go_loopg [7,8,9,10] k (fun kq v7 v8 v9 v10 w'=>∃ (x7_1:List (S28)) (x8_1:List (S28)) (x9_1:List (S28)) (x10_1:Int),v10=.int .i64 x10_1∧As0 (drovewaytop_TopJoined.l0 kq a0 l1 a2 x7_1 x8_1 x9_1 x10_1=some r)∧As0 (kq≤k)∧As0 (Kd.R k28 28 w' w.heap.size (fun k_=>some k_≠(v8:Value).ownBlock∧some k_≠(v9:Value).ownBlock) v7 x7_1)∧As0 (Kd.R k28 28 w' w.heap.size (fun k_=>some k_≠(v7:Value).ownBlock∧some k_≠(v9:Value).ownBlock) v8 x8_1)∧As0 (Kd.R k28 28 w' w.heap.size (fun k_=>some k_≠(v7:Value).ownBlock∧some k_≠(v8:Value).ownBlock) v9 x9_1)∧As0 (Below w.heap.size w w'))
  case atStart=>exact ⟨(([]:List (S28))),(([]:List (S28))),(([]:List (S28))),(0),(by rfl),H',⟨zLe _⟩,⟨by exact Kd.R_nil _ _ _ _ _⟩,⟨by exact Kd.R_nil _ _ _ _ _⟩,⟨by exact Kd.R_nil _ _ _ _ _⟩,⟨by repeat (with_reducible first|exact HB.out|apply y00)⟩⟩
  case round =>
   clear H'
   try clear c1
   try clear p2
   try clear c3
   try clear c4
   try clear c5
   try clear c5b0
   try clear c5b1
   obtain ⟨x7_1,x8_1,x9_1,x10_1,rfl,HA,HK1,HO_7,HO_8,HO_9,HB⟩:=hrel;cases gk with
   |zero=>exact absurd HA.out (by simp [drovewaytop_TopJoined.l0])
   |succ k1 =>
    have H:=HA.out;clear HA;simp only [drovewaytop_TopJoined.l0] at H
    by_cases c6:x10_1<(l1.length:Int)
    ·rw [if_pos c6] at H
     have c6b0:decide (x10_1<(l1.length:Int))=true:=zDt c6;clear c6
     by_cases c7:0≤x10_1
     ·rw [if_pos c7] at H
      have c7b0:decide (0≤x10_1)=true:=zDt c7;clear c7
      by_cases c8:x7_1.length<5864062014805
      ·rw [if_pos c8] at H
       have LMc8:=As0.mk c8;clear c8;obtain ⟨y227,hy227⟩:∃ y_:List (S28),y_=(x7_1 ++ [(⟨(y0c l1 x10_1).f0,(y0c l1 x10_1).f1,false⟩:S28)]):=⟨_,rfl⟩
       replace H:(if (Int.tmod (shr .u32 a2 x10_1) 2)=1 then (if x8_1.length<5864062014805 then (drovewaytop_TopJoined.l0 k1 a0 l1 a2 y227 (x8_1 ++ [(⟨(y0c l1 x10_1).f0,(y0c l1 x10_1).f1,false⟩:S28)]) x9_1 (wrap64 (x10_1+1))) else (none)) else (if x9_1.length<5864062014805 then (drovewaytop_TopJoined.l0 k1 a0 l1 a2 y227 x8_1 (x9_1 ++ [(⟨(y0c l1 x10_1).f0,(y0c l1 x10_1).f1,false⟩:S28)]) (wrap64 (x10_1+1))) else (none)))=some r:=by (have H2_:=(Option.bind_some _ _).symm.trans H;rw [hy227];with_reducible exact H2_)
       have Ny227:=As0.mk hy227;clear hy227;have c9b0:=eq_true (zDo (by with_reducible assumption):0≤x10_1);obtain ⟨ji10,hji10⟩:∃ j_:Int,(shr .u32 a2 x10_1)=j_:=⟨_,rfl⟩
       replace H:(if (Int.tmod (ji10) 2)=1 then (if x8_1.length<5864062014805 then (drovewaytop_TopJoined.l0 k1 a0 l1 a2 y227 (x8_1 ++ [(⟨(y0c l1 x10_1).f0,(y0c l1 x10_1).f1,false⟩:S28)]) x9_1 (wrap64 (x10_1+1))) else (none)) else (if x9_1.length<5864062014805 then (drovewaytop_TopJoined.l0 k1 a0 l1 a2 y227 x8_1 (x9_1 ++ [(⟨(y0c l1 x10_1).f0,(y0c l1 x10_1).f1,false⟩:S28)]) (wrap64 (x10_1+1))) else (none)))=some r:=by (rw [hji10] at H;exact H)
       have hji10_:(a2 / 2 ^ min x10_1.toNat 32)=ji10:=hji10;have hji10z:x10_1≤32->(a2 / 2 ^ x10_1.toNat)=ji10:=y9q hji10
       by_cases c11:(Int.tmod (ji10) 2)=1
       ·rw [if_pos c11] at H
        have c11b0:((Int.tmod (ji10) 2) == 1)=true:=beq_iff_eq.mpr c11;have c11b1:((Int.tmod (ji10) 2) != 1)=false:=bne_eq_false_iff_eq.mpr c11;clear c11
        by_cases c12:x8_1.length<5864062014805
        ·rw [if_pos c12] at H
         have LMc12:=As0.mk c12;clear c12;obtain ⟨y230,hy230⟩:∃ y_:List (S28),y_=(x8_1 ++ [(⟨(y0c l1 x10_1).f0,(y0c l1 x10_1).f1,false⟩:S28)]):=⟨_,rfl⟩
         replace H:(drovewaytop_TopJoined.l0 k1 a0 l1 a2 y227 y230 x9_1 (wrap64 (x10_1+1)))=some r:=by (rw [hy230];with_reducible exact H)
         have Ny230:=As0.mk hy230;clear hy230;have H':=As0.mk H;clear H
         try go_wp2
         have n0_:=As0.mk (Kd.R_drew HO_7.out);have n1_:=As0.mk (Kd.R_drew HO_8.out);have n2_:=As0.mk (Kd.R_drew HO_9.out);have n3_:=As0.mk (y02 HB.out);clear HO_7;clear HO_8;clear HO_9;clear HB;have HO_7:=n0_;have HO_8:=n1_;have HO_9:=n2_;have HB:=n3_;clear n0_ n1_ n2_ n3_;have p224:0≤(x10_1:Int):=zDo (by with_reducible assumption);have q224:x10_1<(l1.length:Int):=zDo (by with_reducible assumption);obtain ⟨ad224,e224,hx224_0,hx224_1,hx224_2⟩:=y20 HR1.out x10_1 p224 q224;have hw224_2:=hx224_2;have hw224_1:=hx224_1;have hw224_0:=hx224_0;cases e224
         replace hx224_0:=(HB.out.cell (World.block_lt_of_cell? w _ hx224_0)).trans hx224_0;replace hx224_1:=(HB.out.cell (World.block_lt_of_cell? w _ hx224_1)).trans hx224_1;replace hx224_2:=(HB.out.cell (World.block_lt_of_cell? w _ hx224_2)).trans hx224_2;replace p224:=eq_true p224;replace q224:=eq_true q224;have p225:0≤(x10_1:Int):=zDo (by with_reducible assumption);have q225:x10_1<(l1.length:Int):=zDo (by with_reducible assumption);obtain ⟨ad225,e225,hx225_0,hx225_1,hx225_2⟩:=y20 HR1.out x10_1 p225 q225;have hw225_2:=hx225_2;have hw225_1:=hx225_1;have hw225_0:=hx225_0;obtain rfl:ad224=ad225:=(by injection e225)
         replace hx225_0:=(HB.out.cell (World.block_lt_of_cell? w _ hx225_0)).trans hx225_0;replace hx225_1:=(HB.out.cell (World.block_lt_of_cell? w _ hx225_1)).trans hx225_1;replace hx225_2:=(HB.out.cell (World.block_lt_of_cell? w _ hx225_2)).trans hx225_2;replace p225:=eq_true p225;replace q225:=eq_true q225;refine y2d (n:=13) (S:=fun w'=>w'.cell? (ad224.add ((x10_1).toNat * 3))=some (.int .i64 ((y0c l1 x10_1).f0))∧w'.cell? ⟨(ad224.add ((x10_1).toNat * 3)).block,(ad224.add ((x10_1).toNat * 3)).off+1,none⟩=some (.int .i64 ((y0c l1 x10_1).f1))∧w'.cell? ⟨(ad224.add ((x10_1).toNat * 3)).block,(ad224.add ((x10_1).toNat * 3)).off+2,none⟩=some (.bool ((y0c l1 x10_1).f2))∧w'.cell? (ad224.add ((x10_1).toNat * 3))=some (.int .i64 ((y0c l1 x10_1).f0))∧w'.cell? ⟨(ad224.add ((x10_1).toNat * 3)).block,(ad224.add ((x10_1).toNat * 3)).off+1,none⟩=some (.int .i64 ((y0c l1 x10_1).f1))∧w'.cell? ⟨(ad224.add ((x10_1).toNat * 3)).block,(ad224.add ((x10_1).toNat * 3)).off+2,none⟩=some (.bool ((y0c l1 x10_1).f2))) (ds:=[]) #[false,false,false,false,false,false,false,false,false,false,false,false,false] (by kernel_rfl) rfl rfl ⟨((HB.out.cell (World.block_lt_of_cell? w _ hw224_0)).trans hw224_0),((HB.out.cell (World.block_lt_of_cell? w _ hw224_1)).trans hw224_1),((HB.out.cell (World.block_lt_of_cell? w _ hw224_2)).trans hw224_2),((HB.out.cell (World.block_lt_of_cell? w _ hw225_0)).trans hw225_0),((HB.out.cell (World.block_lt_of_cell? w _ hw225_1)).trans hw225_1),((HB.out.cell (World.block_lt_of_cell? w _ hw225_2)).trans hw225_2)⟩ (fun hHeld=>?_);refine y25 drovewaytop_TopJoined.tab7 drovewaytop_TopJoined.bits7 (fun HT_ HW_=>?_);generalize wr.drew=w13 at HO_7 HO_8 HO_9 HB hx224_0 hx224_1 hx224_2 hx225_0 hx225_1 hx225_2 hHeld ⊢;refine y0e (i:=0) (N:=some 39) (v:=?_) (a':=?_) #[true,false,false,false,false,false,false,false,false,false,false,false,false] rfl rfl (y0i HT_.out (by kernel_rfl)) (fun _ _ _ h=>h) (Or.inl ⟨by rfl,?_⟩) ?_ ?_;rotate_left
         ·intro w'
          go_simp
          with_reducible rfl
         rotate_left
         ·simp only [Act.put,List.setIfInBounds_toArray,List.set_cons_zero,List.set_cons_succ,y0a,y0b]
          rfl
         refine y0e (i:=1) (N:=some 40) (v:=?_) (a':=?_) #[true,true,false,false,false,false,false,false,false,false,false,false,false] rfl rfl (y0i HT_.out (by kernel_rfl)) (fun _ _ _ h=>h) (Or.inl ⟨by rfl,?_⟩) ?_ ?_;rotate_left
         ·intro w'
          go_simp
          with_reducible rfl
         rotate_left
         ·simp only [Act.put,List.setIfInBounds_toArray,List.set_cons_zero,List.set_cons_succ,y0a,y0b]
          rfl
         refine y0e (i:=2) (N:=some 41) (v:=?_) (a':=?_) #[true,true,true,false,false,false,false,false,false,false,false,false,false] rfl rfl (y0i HT_.out (by kernel_rfl)) (fun _ _ _ h=>h) (Or.inl ⟨by rfl,?_⟩) ?_ ?_;rotate_left
         ·intro w'
          go_simp
          with_reducible rfl
         rotate_left
         ·simp only [Act.put,List.setIfInBounds_toArray,List.set_cons_zero,List.set_cons_succ,y0a,y0b]
          rfl
         refine y0e (i:=3) (N:=some 42) (v:=?_) (a':=?_) #[true,true,true,true,false,false,false,false,false,false,false,false,false] rfl rfl (y0i HT_.out (by kernel_rfl)) (fun _ _ _ h=>h) (Or.inl ⟨by rfl,?_⟩) ?_ ?_;rotate_left
         ·intro w'
          go_simp
          with_reducible rfl
         rotate_left
         ·simp only [Act.put,List.setIfInBounds_toArray,List.set_cons_zero,List.set_cons_succ,y0a,y0b]
          rfl
         refine y0e (i:=5) (N:=some 44) (v:=?_) (a':=?_) #[true,true,true,true,false,true,false,false,false,false,false,false,false] rfl rfl (y0i HT_.out (by kernel_rfl)) (fun _ _ _ h=>h) (Or.inl ⟨by rfl,?_⟩) ?_ ?_;rotate_left
         ·intro w'
          go_simp
          with_reducible rfl
         rotate_left
         ·simp only [Act.put,List.setIfInBounds_toArray,List.set_cons_zero,List.set_cons_succ,y0a,y0b]
          rfl
         refine y0e (i:=6) (N:=some 45) (v:=?_) (a':=?_) #[true,true,true,true,false,true,true,false,false,false,false,false,false] rfl rfl (y0i HT_.out (by kernel_rfl)) (fun _ _ _ h=>h) (Or.inl ⟨by rfl,?_⟩) ?_ ?_;rotate_left
         ·intro w'
          go_simp
          with_reducible rfl
         rotate_left
         ·simp only [Act.put,List.setIfInBounds_toArray,List.set_cons_zero,List.set_cons_succ,y0a,y0b]
          rfl
         refine y0e (i:=7) (N:=some 46) (v:=?_) (a':=?_) #[true,true,true,true,false,true,true,true,false,false,false,false,false] rfl rfl (y0i HT_.out (by kernel_rfl)) (fun _ _ _ h=>h) (Or.inl ⟨by rfl,?_⟩) ?_ ?_;rotate_left
         ·intro w'
          go_simp
          with_reducible rfl
         rotate_left
         ·simp only [Act.put,List.setIfInBounds_toArray,List.set_cons_zero,List.set_cons_succ,y0a,y0b]
          rfl
         refine y0e (i:=8) (N:=some 47) (v:=?_) (a':=?_) #[true,true,true,true,false,true,true,true,true,false,false,false,false] rfl rfl (y0i HT_.out (by kernel_rfl)) (fun _ _ _ h=>h) (Or.inl ⟨by rfl,?_⟩) ?_ ?_;rotate_left
         ·intro w'
          go_simp
          with_reducible rfl
         rotate_left
         ·simp only [Act.put,List.setIfInBounds_toArray,List.set_cons_zero,List.set_cons_succ,y0a,y0b]
          rfl
         refine y1l (i:=4) (N:=some 43) (v:=?_) (a':=?_) #[true,true,true,true,true,true,true,true,true,false,false,false,false] rfl rfl (y1k HT_.out HW_.out (by kernel_rfl)) (fun _ _ _ h=>h) (Or.inl ⟨by rfl,?_⟩) hHeld ?_ ?_;rotate_left
         ·rintro w' ⟨s0,s1,s2,s3,s4,s5⟩
          go_simp
          with_reducible rfl
         rotate_left
         ·simp only [Act.put,List.setIfInBounds_toArray,List.set_cons_zero,List.set_cons_succ,y0a,y0b]
          rfl
         refine y1l (i:=9) (N:=some 48) (v:=?_) (a':=?_) #[true,true,true,true,true,true,true,true,true,true,false,false,false] rfl rfl (y1k HT_.out HW_.out (by kernel_rfl)) (fun _ _ _ h=>h) (Or.inl ⟨by rfl,?_⟩) hHeld ?_ ?_;rotate_left
         ·rintro w' ⟨s0,s1,s2,s3,s4,s5⟩
          go_simp
          with_reducible rfl
         rotate_left
         ·simp only [Act.put,List.setIfInBounds_toArray,List.set_cons_zero,List.set_cons_succ,y0a,y0b]
          rfl
         refine y0e (i:=10) (N:=some 49) (v:=?_) (a':=?_) #[true,true,true,true,true,true,true,true,true,true,true,false,false] rfl rfl (y0i HT_.out (by kernel_rfl)) (fun _ _ _ h=>h) (Or.inl ⟨by rfl,?_⟩) ?_ ?_;rotate_left
         ·intro w'
          go_simp
          with_reducible rfl
         rotate_left
         ·simp only [Act.put,List.setIfInBounds_toArray,List.set_cons_zero,List.set_cons_succ,y0a,y0b]
          rfl
         refine one_ (i:=11) (N:=some 11) #[true,true,true,true,true,true,true,true,true,true,true,true,false] rfl rfl (y4j HT_.out (by kernel_rfl)) (by decide) (fun K hK=>?_);refine yd9 ?hg (N:=11) ?hd (cs:=#[.int .i64 0,.int .i64 0,.bool false]) (t:=28) ?hr ?_;(case hd=>rfl);(case hg=>rfl);(case hr=>(go_simp;done))
         intro gb226 hg w14 hbox hb;have n0_:=As0.mk (Kd.R_below (Kd.R_elderB (by (with_reducible repeat (first|apply Kd.R_alloc|apply Kd.R_drewN|apply Kd.R_drew));exact HO_7.out) gb226 (Nat.le_of_eq hg.symm)) hb);have n1_:=As0.mk (Kd.R_below (Kd.R_elderB (by (with_reducible repeat (first|apply Kd.R_alloc|apply Kd.R_drewN|apply Kd.R_drew));exact HO_8.out) gb226 (Nat.le_of_eq hg.symm)) hb);have n2_:=As0.mk (Kd.R_below (Kd.R_elderB (by (with_reducible repeat (first|apply Kd.R_alloc|apply Kd.R_drewN|apply Kd.R_drew));exact HO_9.out) gb226 (Nat.le_of_eq hg.symm)) hb);have n3_:=As0.mk (y04 (by repeat (with_reducible exact HB.out)) hb);have n4_:=As0.mk (hbox);have n5_:=As0.mk ((by rw [hg];exact (y05 (by repeat (with_reducible exact HB.out))):w.heap.size≤gb226));have n6_:=As0.mk ((by rw [hg];exact (y05 (by repeat (with_reducible exact HB.out))):w.heap.size≤gb226));clear HO_7;clear HO_8;clear HO_9;clear HB;have HO_7:=n0_;have HO_8:=n1_;have HO_9:=n2_;have HB:=n3_;have BK226:=n4_;have GW226:=n5_;have GE226:=n6_;clear n0_ n1_ n2_ n3_ n4_ n5_ n6_;clear hb hbox hg;refine hK.out _ _ ⟨((HB.out.cell (World.block_lt_of_cell? w _ hw224_0)).trans hw224_0),((HB.out.cell (World.block_lt_of_cell? w _ hw224_1)).trans hw224_1),((HB.out.cell (World.block_lt_of_cell? w _ hw224_2)).trans hw224_2),((HB.out.cell (World.block_lt_of_cell? w _ hw225_0)).trans hw225_0),((HB.out.cell (World.block_lt_of_cell? w _ hw225_1)).trans hw225_1),((HB.out.cell (World.block_lt_of_cell? w _ hw225_2)).trans hw225_2)⟩ (fun hHeld=>?_);clear hK K;refine y43 (a':=?_) ?_ ?_;rotate_left
         ·show Act.put _ (some 11) _=_
          simp only [Act.put,List.setIfInBounds_toArray,List.set_cons_zero,List.set_cons_succ,y0a,y0b];rfl
         refine one_ (i:=12) (N:=none) #[true,true,true,true,true,true,true,true,true,true,true,true,true] rfl rfl (y4j HT_.out (by kernel_rfl)) (by decide) (fun K hK=>?_);have hs15:w14.cell? ⟨gb226,0,none⟩=some (.int .i64 0):=(y07 BK226.out 0).trans rfl;have hfs15:=y09 BK226.out 0;have hs16:w14.cell? ⟨gb226,1,none⟩=some (.int .i64 0):=(y07 BK226.out 1).trans rfl;have hfs16:=y09 BK226.out 1;have hs17:w14.cell? ⟨gb226,2,none⟩=some (.bool false):=(y07 BK226.out 2).trans rfl;have hfs17:=y09 BK226.out 2;refine y5w (w1:=?_) (by rfl) rfl ?_ ?_;rotate_left
         ·go_simp
          rfl
         refine hK.out _ _ ⟨((y0t (p:=⟨gb226,_,none⟩) (by exact Nat.ne_of_lt (Nat.lt_of_lt_of_le (by have:=World.block_lt_of_cell? _ _ hw224_0;exact this) GW226.out)) _).trans (((y0t (p:=⟨gb226,_,none⟩) (by exact Nat.ne_of_lt (Nat.lt_of_lt_of_le (by have:=World.block_lt_of_cell? _ _ hw224_0;exact this) GW226.out)) _).trans (((y0t (p:=⟨gb226,_,none⟩) (by exact Nat.ne_of_lt (Nat.lt_of_lt_of_le (by have:=World.block_lt_of_cell? _ _ hw224_0;exact this) GW226.out)) _).trans (hHeld.1)))))),((y0t (p:=⟨gb226,_,none⟩) (by exact Nat.ne_of_lt (Nat.lt_of_lt_of_le (by have:=World.block_lt_of_cell? _ _ hw224_1;exact this) GW226.out)) _).trans (((y0t (p:=⟨gb226,_,none⟩) (by exact Nat.ne_of_lt (Nat.lt_of_lt_of_le (by have:=World.block_lt_of_cell? _ _ hw224_1;exact this) GW226.out)) _).trans (((y0t (p:=⟨gb226,_,none⟩) (by exact Nat.ne_of_lt (Nat.lt_of_lt_of_le (by have:=World.block_lt_of_cell? _ _ hw224_1;exact this) GW226.out)) _).trans (hHeld.2.1)))))),((y0t (p:=⟨gb226,_,none⟩) (by exact Nat.ne_of_lt (Nat.lt_of_lt_of_le (by have:=World.block_lt_of_cell? _ _ hw224_2;exact this) GW226.out)) _).trans (((y0t (p:=⟨gb226,_,none⟩) (by exact Nat.ne_of_lt (Nat.lt_of_lt_of_le (by have:=World.block_lt_of_cell? _ _ hw224_2;exact this) GW226.out)) _).trans (((y0t (p:=⟨gb226,_,none⟩) (by exact Nat.ne_of_lt (Nat.lt_of_lt_of_le (by have:=World.block_lt_of_cell? _ _ hw224_2;exact this) GW226.out)) _).trans (hHeld.2.2.1)))))),((y0t (p:=⟨gb226,_,none⟩) (by exact Nat.ne_of_lt (Nat.lt_of_lt_of_le (by have:=World.block_lt_of_cell? _ _ hw225_0;exact this) GW226.out)) _).trans (((y0t (p:=⟨gb226,_,none⟩) (by exact Nat.ne_of_lt (Nat.lt_of_lt_of_le (by have:=World.block_lt_of_cell? _ _ hw225_0;exact this) GW226.out)) _).trans (((y0t (p:=⟨gb226,_,none⟩) (by exact Nat.ne_of_lt (Nat.lt_of_lt_of_le (by have:=World.block_lt_of_cell? _ _ hw225_0;exact this) GW226.out)) _).trans (hHeld.2.2.2.1)))))),((y0t (p:=⟨gb226,_,none⟩) (by exact Nat.ne_of_lt (Nat.lt_of_lt_of_le (by have:=World.block_lt_of_cell? _ _ hw225_1;exact this) GW226.out)) _).trans (((y0t (p:=⟨gb226,_,none⟩) (by exact Nat.ne_of_lt (Nat.lt_of_lt_of_le (by have:=World.block_lt_of_cell? _ _ hw225_1;exact this) GW226.out)) _).trans (((y0t (p:=⟨gb226,_,none⟩) (by exact Nat.ne_of_lt (Nat.lt_of_lt_of_le (by have:=World.block_lt_of_cell? _ _ hw225_1;exact this) GW226.out)) _).trans (hHeld.2.2.2.2.1)))))),((y0t (p:=⟨gb226,_,none⟩) (by exact Nat.ne_of_lt (Nat.lt_of_lt_of_le (by have:=World.block_lt_of_cell? _ _ hw225_2;exact this) GW226.out)) _).trans (((y0t (p:=⟨gb226,_,none⟩) (by exact Nat.ne_of_lt (Nat.lt_of_lt_of_le (by have:=World.block_lt_of_cell? _ _ hw225_2;exact this) GW226.out)) _).trans (((y0t (p:=⟨gb226,_,none⟩) (by exact Nat.ne_of_lt (Nat.lt_of_lt_of_le (by have:=World.block_lt_of_cell? _ _ hw225_2;exact this) GW226.out)) _).trans (hHeld.2.2.2.2.2))))))⟩ (fun hHeld=>?_);clear hK K;refine y3x (y3p HT_.out (by kernel_rfl)) ?_;have hcz18_0:w14.cell? ⟨gb226,0,none⟩=some (.int .i64 0):=(y07 BK226.out 0).trans rfl;have hcz18_1:w14.cell? ⟨gb226,1,none⟩=some (.int .i64 0):=(y07 BK226.out 1).trans rfl;have hcz18_2:w14.cell? ⟨gb226,2,none⟩=some (.bool false):=(y07 BK226.out 2).trans rfl;have hfz18_0:=y09 BK226.out 0;have hfz18_1:=y09 BK226.out 1;have hfz18_2:=y09 BK226.out 2
         try go_wp2_with (first|((with_reducible refine y10 (b:=.append) (xs:=#[.tmp 50,.tmp 52]) rfl ?_);(try (refine y14 (by rfl) ?_;dsimp only));at_builtin;refine Kd.R_append k28 (w0:=w) w.heap.size rfl (.tmp 50) (.tmp 52) 22 28 (.agg #[(.int .i64 0),(.int .i64 0),(.bool false)]) 24 rfl Tra.underlying22 yd2 rfl (by decide) (by omega) u7 x7_1 (⟨(y0c l1 x10_1).f0,(y0c l1 x10_1).f1,false⟩:S28) [.int .i64 ((y0c l1 x10_1).f0),.int .i64 ((y0c l1 x10_1).f1),.bool false] (fun k_=>some k_≠(u8:Value).ownBlock∧some k_≠(u9:Value).ownBlock∧k_≠gb226) (fun _=>False) rfl (by (go_simp;done)) ?aP (fun _ hk=>hk.elim) ?aF ?aO ?aB ?aS ?aL ?_;(case aP=>exact y22 _ _ _ (⟨(y0c l1 x10_1).f0,(y0c l1 x10_1).f1,false⟩:S28));(case aB=>exact (by repeat (with_reducible first|exact HB.out|refine y0j ?_ GE226.out)));(case aF=>exact (fun k_ hk=>⟨Kd.fresh' (Kd.R_lt (by (with_reducible repeat (first|apply Kd.R_alloc|apply Kd.R_drewN|apply Kd.R_drew));exact (Kd.R_mono (Kd.R_far (p:=⟨gb226,2,none⟩) (Kd.R_far (p:=⟨gb226,1,none⟩) (Kd.R_far (p:=⟨gb226,0,none⟩) (Kd.R_mono HO_8.out (fun k_ hk=>(⟨hk,hk.2⟩:_∧k_≠gb226))) (fun _ hk=>hk.2) (.int .i64 ((y0c l1 x10_1).f0))) (fun _ hk=>hk.2) (.int .i64 ((y0c l1 x10_1).f1))) (fun _ hk=>hk.2) (.bool false)) (fun _ h_=>h_.1)))) k_ hk,Kd.fresh' (Kd.R_lt (by (with_reducible repeat (first|apply Kd.R_alloc|apply Kd.R_drewN|apply Kd.R_drew));exact (Kd.R_mono (Kd.R_far (p:=⟨gb226,2,none⟩) (Kd.R_far (p:=⟨gb226,1,none⟩) (Kd.R_far (p:=⟨gb226,0,none⟩) (Kd.R_mono HO_9.out (fun k_ hk=>(⟨hk,hk.2⟩:_∧k_≠gb226))) (fun _ hk=>hk.2) (.int .i64 ((y0c l1 x10_1).f0))) (fun _ hk=>hk.2) (.int .i64 ((y0c l1 x10_1).f1))) (fun _ hk=>hk.2) (.bool false)) (fun _ h_=>h_.1)))) k_ hk,Kd.freshB (g:=gb226) (o:=.cells #[.int .i64 ((y0c l1 x10_1).f0),.int .i64 ((y0c l1 x10_1).f1),.bool false] 28 (0,0)) (by (with_reducible repeat (first|refine y0f ?_ _|refine y0h ?_|refine y0d ?_ _));refine y0y (cs:=#[.int .i64 ((y0c l1 x10_1).f0),.int .i64 ((y0c l1 x10_1).f1),.bool false]) ?_ 2 _ rfl;(with_reducible repeat (first|refine y0f ?_ _|refine y0h ?_|refine y0d ?_ _));refine y0y (cs:=#[.int .i64 ((y0c l1 x10_1).f0),.int .i64 0,.bool false]) ?_ 1 _ rfl;(with_reducible repeat (first|refine y0f ?_ _|refine y0h ?_|refine y0d ?_ _));refine y0y (cs:=#[.int .i64 0,.int .i64 0,.bool false]) ?_ 0 _ rfl;(with_reducible repeat (first|refine y0f ?_ _|refine y0h ?_|refine y0d ?_ _));exact BK226.out) k_ hk⟩));(case aO=>exact (by (with_reducible repeat (first|apply Kd.R_alloc|apply Kd.R_drewN|apply Kd.R_drew));exact Kd.R_mono (Kd.R_far (p:=⟨gb226,2,none⟩) (Kd.R_far (p:=⟨gb226,1,none⟩) (Kd.R_far (p:=⟨gb226,0,none⟩) (Kd.R_mono HO_7.out (fun k_ hk=>(⟨hk,hk.2⟩:_∧k_≠gb226))) (fun _ hk=>hk.2) (.int .i64 ((y0c l1 x10_1).f0))) (fun _ hk=>hk.2) (.int .i64 ((y0c l1 x10_1).f1))) (fun _ hk=>hk.2) (.bool false)) (fun _ hk=>⟨hk.1.1.1,⟨hk.1.1.2,hk.1.2⟩⟩)));(case aS=>exact (y05 (by repeat (with_reducible first|exact HB.out|refine y0j ?_ GE226.out))));(case aL=>have:=LMc8.out;omega);intro v228 w19 ho hb hg hat;rw [← Ny227.out] at ho;have n0_:=As0.mk (Kd.R_after (ok:=(fun k_=>some k_≠(u9:Value).ownBlock∧k_≠gb226)) (by (with_reducible repeat (first|apply Kd.R_alloc|apply Kd.R_drewN|apply Kd.R_drew));exact Kd.R_mono (Kd.R_far (p:=⟨gb226,2,none⟩) (Kd.R_far (p:=⟨gb226,1,none⟩) (Kd.R_far (p:=⟨gb226,0,none⟩) (Kd.R_mono HO_8.out (fun k_ hk=>(⟨hk,hk.2⟩:_∧k_≠gb226))) (fun _ hk=>hk.2) (.int .i64 ((y0c l1 x10_1).f0))) (fun _ hk=>hk.2) (.int .i64 ((y0c l1 x10_1).f1))) (fun _ hk=>hk.2) (.bool false)) (fun _ hk=>⟨⟨hk.1.1.2,hk.1.2⟩,hk.1.1.1⟩)) hg hat);have n1_:=As0.mk (Kd.R_after (ok:=(fun k_=>some k_≠(u8:Value).ownBlock∧k_≠gb226)) (by (with_reducible repeat (first|apply Kd.R_alloc|apply Kd.R_drewN|apply Kd.R_drew));exact Kd.R_mono (Kd.R_far (p:=⟨gb226,2,none⟩) (Kd.R_far (p:=⟨gb226,1,none⟩) (Kd.R_far (p:=⟨gb226,0,none⟩) (Kd.R_mono HO_9.out (fun k_ hk=>(⟨hk,hk.2⟩:_∧k_≠gb226))) (fun _ hk=>hk.2) (.int .i64 ((y0c l1 x10_1).f0))) (fun _ hk=>hk.2) (.int .i64 ((y0c l1 x10_1).f1))) (fun _ hk=>hk.2) (.bool false)) (fun _ hk=>⟨⟨hk.1.1.2,hk.1.2⟩,hk.1.1.1⟩)) hg hat);have n2_:=As0.mk (blk_grown (g:=gb226) (o:=.cells #[.int .i64 ((y0c l1 x10_1).f0),.int .i64 ((y0c l1 x10_1).f1),.bool false] 28 (0,0)) (by (with_reducible repeat (first|refine y0f ?_ _|refine y0h ?_|refine y0d ?_ _));refine y0y (cs:=#[.int .i64 ((y0c l1 x10_1).f0),.int .i64 ((y0c l1 x10_1).f1),.bool false]) ?_ 2 _ rfl;(with_reducible repeat (first|refine y0f ?_ _|refine y0h ?_|refine y0d ?_ _));refine y0y (cs:=#[.int .i64 ((y0c l1 x10_1).f0),.int .i64 0,.bool false]) ?_ 1 _ rfl;(with_reducible repeat (first|refine y0f ?_ _|refine y0h ?_|refine y0d ?_ _));refine y0y (cs:=#[.int .i64 0,.int .i64 0,.bool false]) ?_ 0 _ rfl;(with_reducible repeat (first|refine y0f ?_ _|refine y0h ?_|refine y0d ?_ _));exact BK226.out) hg (Kd.R_away HO_7.out (fun _ hk=>hk.2)));have n3_:=As0.mk (hb);have n4_:=As0.mk (ho);clear HO_8;clear HO_9;clear BK226;clear HB;clear HO_7;have HO_8:=n0_;have HO_9:=n1_;have BK226:=n2_;have HB:=n3_;have HO229:=n4_;clear n0_ n1_ n2_ n3_ n4_;clear ho hb hg hat;have hcz20_0:w19.cell? ⟨gb226,0,none⟩=some (.int .i64 ((y0c l1 x10_1).f0)):=(y07 BK226.out 0).trans rfl;have hcz20_1:w19.cell? ⟨gb226,1,none⟩=some (.int .i64 ((y0c l1 x10_1).f1)):=(y07 BK226.out 1).trans rfl;have hcz20_2:w19.cell? ⟨gb226,2,none⟩=some (.bool false):=(y07 BK226.out 2).trans rfl;have hfz20_0:=y09 BK226.out 0;have hfz20_1:=y09 BK226.out 1;have hfz20_2:=y09 BK226.out 2)|((with_reducible refine y10 (b:=.append) (xs:=#[.tmp 59,.tmp 61]) rfl ?_);(try (refine y14 (by rfl) ?_;dsimp only));at_builtin;refine Kd.R_append k28 (w0:=w) w.heap.size rfl (.tmp 59) (.tmp 61) 22 28 (.agg #[(.int .i64 0),(.int .i64 0),(.bool false)]) 24 rfl Tra.underlying22 yd2 rfl (by decide) (by omega) u8 x8_1 (⟨(y0c l1 x10_1).f0,(y0c l1 x10_1).f1,false⟩:S28) [.int .i64 ((y0c l1 x10_1).f0),.int .i64 ((y0c l1 x10_1).f1),.bool false] (fun k_=>some k_≠(u9:Value).ownBlock∧some k_≠(v228:Value).ownBlock∧k_≠gb226) (fun _=>False) rfl rfl ?aP (fun _ hk=>hk.elim) ?aF ?aO ?aB ?aS ?aL ?_;(case aP=>exact y22 _ _ _ (⟨(y0c l1 x10_1).f0,(y0c l1 x10_1).f1,false⟩:S28));(case aB=>exact (by repeat (with_reducible exact HB.out)));(case aF=>exact (fun k_ hk=>⟨Kd.fresh' (Kd.R_lt (by (with_reducible repeat (first|apply Kd.R_alloc|apply Kd.R_drewN|apply Kd.R_drew));exact HO_9.out)) k_ hk,Kd.fresh' (Kd.R_lt (by (with_reducible repeat (first|apply Kd.R_alloc|apply Kd.R_drewN|apply Kd.R_drew));exact HO229.out)) k_ hk,Kd.freshB (g:=gb226) (o:=.cells #[.int .i64 ((y0c l1 x10_1).f0),.int .i64 ((y0c l1 x10_1).f1),.bool false] 28 (0,0)) (by (with_reducible repeat (first|refine y0f ?_ _|refine y0h ?_|refine y0d ?_ _));exact BK226.out) k_ hk⟩));(case aO=>exact (by (with_reducible repeat (first|apply Kd.R_alloc|apply Kd.R_drewN|apply Kd.R_drew));exact Kd.R_mono HO_8.out (fun _ hk=>⟨hk.1.1,⟨hk.2,hk.1.2⟩⟩)));(case aS=>exact (y05 (by repeat (with_reducible exact HB.out))));(case aL=>have:=LMc12.out;omega);intro v231 w21 ho hb hg hat;rw [← Ny230.out] at ho;have n0_:=As0.mk (Kd.R_after (ok:=(fun k_=>some k_≠(v228:Value).ownBlock∧k_≠gb226)) (by (with_reducible repeat (first|apply Kd.R_alloc|apply Kd.R_drewN|apply Kd.R_drew));exact Kd.R_mono HO_9.out (fun _ hk=>⟨⟨hk.2,hk.1.2⟩,hk.1.1⟩)) hg hat);have n1_:=As0.mk (blk_grown (g:=gb226) (o:=.cells #[.int .i64 ((y0c l1 x10_1).f0),.int .i64 ((y0c l1 x10_1).f1),.bool false] 28 (0,0)) (by (with_reducible repeat (first|refine y0f ?_ _|refine y0h ?_|refine y0d ?_ _));exact BK226.out) hg (Kd.R_away HO_8.out (fun _ hk=>hk.1.2)));have n2_:=As0.mk (Kd.R_after (ok:=(fun k_=>some k_≠(u9:Value).ownBlock∧k_≠gb226)) (by (with_reducible repeat (first|apply Kd.R_alloc|apply Kd.R_drewN|apply Kd.R_drew));exact Kd.R_mono HO229.out (fun _ hk=>⟨⟨hk.2.1,hk.2.2⟩,hk.1⟩)) hg hat);have n3_:=As0.mk (hb);have n4_:=As0.mk (ho);clear HO_9;clear BK226;clear HO229;clear HB;clear HO_8;have HO_9:=n0_;have BK226:=n1_;have HO229:=n2_;have HB:=n3_;have HO232:=n4_;clear n0_ n1_ n2_ n3_ n4_;clear ho hb hg hat))
         go_roundg k1
         case measure=>have:=HK1.out;omega
         case rel=>exact ⟨(y227),(y230),(x9_1),(wrap64 (x10_1+1)),(by rfl),H',⟨by have:=HK1.out;omega⟩,⟨by (with_reducible repeat (first|apply Kd.R_alloc|apply Kd.R_drewN|apply Kd.R_drew));exact Kd.R_mono HO229.out (fun _ hk=>⟨hk.2,hk.1.1⟩)⟩,⟨by (with_reducible repeat (first|apply Kd.R_alloc|apply Kd.R_drewN|apply Kd.R_drew));exact Kd.R_mono HO232.out (fun _ hk=>⟨hk.2.1,hk.1⟩)⟩,⟨by (with_reducible repeat (first|apply Kd.R_alloc|apply Kd.R_drewN|apply Kd.R_drew));exact Kd.R_mono HO_9.out (fun _ hk=>⟨hk.1.1,hk.2⟩)⟩,⟨by repeat (with_reducible exact HB.out)⟩⟩
        ·rw [if_neg c12] at H
         exact absurd H (by simp)
       ·rw [if_neg c11] at H
        have c11b0:((Int.tmod (ji10) 2) == 1)=false:=beq_eq_false_iff_ne.mpr c11;have c11b1:((Int.tmod (ji10) 2) != 1)=true:=bne_iff_ne.mpr c11
        by_cases c22:x9_1.length<5864062014805
        ·rw [if_pos c22] at H
         have LMc22:=As0.mk c22;clear c22;obtain ⟨y233,hy233⟩:∃ y_:List (S28),y_=(x9_1 ++ [(⟨(y0c l1 x10_1).f0,(y0c l1 x10_1).f1,false⟩:S28)]):=⟨_,rfl⟩
         replace H:(drovewaytop_TopJoined.l0 k1 a0 l1 a2 y227 x8_1 y233 (wrap64 (x10_1+1)))=some r:=by (rw [hy233];with_reducible exact H)
         have Ny233:=As0.mk hy233;clear hy233;have H':=As0.mk H;clear H
         try go_wp2
         have n0_:=As0.mk (Kd.R_drew HO_7.out);have n1_:=As0.mk (Kd.R_drew HO_8.out);have n2_:=As0.mk (Kd.R_drew HO_9.out);have n3_:=As0.mk (y02 HB.out);clear HO_7;clear HO_8;clear HO_9;clear HB;have HO_7:=n0_;have HO_8:=n1_;have HO_9:=n2_;have HB:=n3_;clear n0_ n1_ n2_ n3_;have p224:0≤(x10_1:Int):=zDo (by with_reducible assumption);have q224:x10_1<(l1.length:Int):=zDo (by with_reducible assumption);obtain ⟨ad224,e224,hx224_0,hx224_1,hx224_2⟩:=y20 HR1.out x10_1 p224 q224;have hw224_2:=hx224_2;have hw224_1:=hx224_1;have hw224_0:=hx224_0;cases e224
         replace hx224_0:=(HB.out.cell (World.block_lt_of_cell? w _ hx224_0)).trans hx224_0;replace hx224_1:=(HB.out.cell (World.block_lt_of_cell? w _ hx224_1)).trans hx224_1;replace hx224_2:=(HB.out.cell (World.block_lt_of_cell? w _ hx224_2)).trans hx224_2;replace p224:=eq_true p224;replace q224:=eq_true q224;have p225:0≤(x10_1:Int):=zDo (by with_reducible assumption);have q225:x10_1<(l1.length:Int):=zDo (by with_reducible assumption);obtain ⟨ad225,e225,hx225_0,hx225_1,hx225_2⟩:=y20 HR1.out x10_1 p225 q225;have hw225_2:=hx225_2;have hw225_1:=hx225_1;have hw225_0:=hx225_0;obtain rfl:ad224=ad225:=(by injection e225)
         replace hx225_0:=(HB.out.cell (World.block_lt_of_cell? w _ hx225_0)).trans hx225_0;replace hx225_1:=(HB.out.cell (World.block_lt_of_cell? w _ hx225_1)).trans hx225_1;replace hx225_2:=(HB.out.cell (World.block_lt_of_cell? w _ hx225_2)).trans hx225_2;replace p225:=eq_true p225;replace q225:=eq_true q225;refine y2d (n:=13) (S:=fun w'=>w'.cell? (ad224.add ((x10_1).toNat * 3))=some (.int .i64 ((y0c l1 x10_1).f0))∧w'.cell? ⟨(ad224.add ((x10_1).toNat * 3)).block,(ad224.add ((x10_1).toNat * 3)).off+1,none⟩=some (.int .i64 ((y0c l1 x10_1).f1))∧w'.cell? ⟨(ad224.add ((x10_1).toNat * 3)).block,(ad224.add ((x10_1).toNat * 3)).off+2,none⟩=some (.bool ((y0c l1 x10_1).f2))∧w'.cell? (ad224.add ((x10_1).toNat * 3))=some (.int .i64 ((y0c l1 x10_1).f0))∧w'.cell? ⟨(ad224.add ((x10_1).toNat * 3)).block,(ad224.add ((x10_1).toNat * 3)).off+1,none⟩=some (.int .i64 ((y0c l1 x10_1).f1))∧w'.cell? ⟨(ad224.add ((x10_1).toNat * 3)).block,(ad224.add ((x10_1).toNat * 3)).off+2,none⟩=some (.bool ((y0c l1 x10_1).f2))) (ds:=[]) #[false,false,false,false,false,false,false,false,false,false,false,false,false] (by kernel_rfl) rfl rfl ⟨((HB.out.cell (World.block_lt_of_cell? w _ hw224_0)).trans hw224_0),((HB.out.cell (World.block_lt_of_cell? w _ hw224_1)).trans hw224_1),((HB.out.cell (World.block_lt_of_cell? w _ hw224_2)).trans hw224_2),((HB.out.cell (World.block_lt_of_cell? w _ hw225_0)).trans hw225_0),((HB.out.cell (World.block_lt_of_cell? w _ hw225_1)).trans hw225_1),((HB.out.cell (World.block_lt_of_cell? w _ hw225_2)).trans hw225_2)⟩ (fun hHeld=>?_);refine y25 drovewaytop_TopJoined.tab7 drovewaytop_TopJoined.bits7 (fun HT_ HW_=>?_);generalize wr.drew=w23 at HO_7 HO_8 HO_9 HB hx224_0 hx224_1 hx224_2 hx225_0 hx225_1 hx225_2 hHeld ⊢;refine y0e (i:=0) (N:=some 39) (v:=?_) (a':=?_) #[true,false,false,false,false,false,false,false,false,false,false,false,false] rfl rfl (y0i HT_.out (by kernel_rfl)) (fun _ _ _ h=>h) (Or.inl ⟨by rfl,?_⟩) ?_ ?_;rotate_left
         ·intro w'
          go_simp
          with_reducible rfl
         rotate_left
         ·simp only [Act.put,List.setIfInBounds_toArray,List.set_cons_zero,List.set_cons_succ,y0a,y0b]
          rfl
         refine y0e (i:=1) (N:=some 40) (v:=?_) (a':=?_) #[true,true,false,false,false,false,false,false,false,false,false,false,false] rfl rfl (y0i HT_.out (by kernel_rfl)) (fun _ _ _ h=>h) (Or.inl ⟨by rfl,?_⟩) ?_ ?_;rotate_left
         ·intro w'
          go_simp
          with_reducible rfl
         rotate_left
         ·simp only [Act.put,List.setIfInBounds_toArray,List.set_cons_zero,List.set_cons_succ,y0a,y0b]
          rfl
         refine y0e (i:=2) (N:=some 41) (v:=?_) (a':=?_) #[true,true,true,false,false,false,false,false,false,false,false,false,false] rfl rfl (y0i HT_.out (by kernel_rfl)) (fun _ _ _ h=>h) (Or.inl ⟨by rfl,?_⟩) ?_ ?_;rotate_left
         ·intro w'
          go_simp
          with_reducible rfl
         rotate_left
         ·simp only [Act.put,List.setIfInBounds_toArray,List.set_cons_zero,List.set_cons_succ,y0a,y0b]
          rfl
         refine y0e (i:=3) (N:=some 42) (v:=?_) (a':=?_) #[true,true,true,true,false,false,false,false,false,false,false,false,false] rfl rfl (y0i HT_.out (by kernel_rfl)) (fun _ _ _ h=>h) (Or.inl ⟨by rfl,?_⟩) ?_ ?_;rotate_left
         ·intro w'
          go_simp
          with_reducible rfl
         rotate_left
         ·simp only [Act.put,List.setIfInBounds_toArray,List.set_cons_zero,List.set_cons_succ,y0a,y0b]
          rfl
         refine y0e (i:=5) (N:=some 44) (v:=?_) (a':=?_) #[true,true,true,true,false,true,false,false,false,false,false,false,false] rfl rfl (y0i HT_.out (by kernel_rfl)) (fun _ _ _ h=>h) (Or.inl ⟨by rfl,?_⟩) ?_ ?_;rotate_left
         ·intro w'
          go_simp
          with_reducible rfl
         rotate_left
         ·simp only [Act.put,List.setIfInBounds_toArray,List.set_cons_zero,List.set_cons_succ,y0a,y0b]
          rfl
         refine y0e (i:=6) (N:=some 45) (v:=?_) (a':=?_) #[true,true,true,true,false,true,true,false,false,false,false,false,false] rfl rfl (y0i HT_.out (by kernel_rfl)) (fun _ _ _ h=>h) (Or.inl ⟨by rfl,?_⟩) ?_ ?_;rotate_left
         ·intro w'
          go_simp
          with_reducible rfl
         rotate_left
         ·simp only [Act.put,List.setIfInBounds_toArray,List.set_cons_zero,List.set_cons_succ,y0a,y0b]
          rfl
         refine y0e (i:=7) (N:=some 46) (v:=?_) (a':=?_) #[true,true,true,true,false,true,true,true,false,false,false,false,false] rfl rfl (y0i HT_.out (by kernel_rfl)) (fun _ _ _ h=>h) (Or.inl ⟨by rfl,?_⟩) ?_ ?_;rotate_left
         ·intro w'
          go_simp
          with_reducible rfl
         rotate_left
         ·simp only [Act.put,List.setIfInBounds_toArray,List.set_cons_zero,List.set_cons_succ,y0a,y0b]
          rfl
         refine y0e (i:=8) (N:=some 47) (v:=?_) (a':=?_) #[true,true,true,true,false,true,true,true,true,false,false,false,false] rfl rfl (y0i HT_.out (by kernel_rfl)) (fun _ _ _ h=>h) (Or.inl ⟨by rfl,?_⟩) ?_ ?_;rotate_left
         ·intro w'
          go_simp
          with_reducible rfl
         rotate_left
         ·simp only [Act.put,List.setIfInBounds_toArray,List.set_cons_zero,List.set_cons_succ,y0a,y0b]
          rfl
         refine y1l (i:=4) (N:=some 43) (v:=?_) (a':=?_) #[true,true,true,true,true,true,true,true,true,false,false,false,false] rfl rfl (y1k HT_.out HW_.out (by kernel_rfl)) (fun _ _ _ h=>h) (Or.inl ⟨by rfl,?_⟩) hHeld ?_ ?_;rotate_left
         ·rintro w' ⟨s0,s1,s2,s3,s4,s5⟩
          go_simp
          with_reducible rfl
         rotate_left
         ·simp only [Act.put,List.setIfInBounds_toArray,List.set_cons_zero,List.set_cons_succ,y0a,y0b]
          rfl
         refine y1l (i:=9) (N:=some 48) (v:=?_) (a':=?_) #[true,true,true,true,true,true,true,true,true,true,false,false,false] rfl rfl (y1k HT_.out HW_.out (by kernel_rfl)) (fun _ _ _ h=>h) (Or.inl ⟨by rfl,?_⟩) hHeld ?_ ?_;rotate_left
         ·rintro w' ⟨s0,s1,s2,s3,s4,s5⟩
          go_simp
          with_reducible rfl
         rotate_left
         ·simp only [Act.put,List.setIfInBounds_toArray,List.set_cons_zero,List.set_cons_succ,y0a,y0b]
          rfl
         refine y0e (i:=10) (N:=some 49) (v:=?_) (a':=?_) #[true,true,true,true,true,true,true,true,true,true,true,false,false] rfl rfl (y0i HT_.out (by kernel_rfl)) (fun _ _ _ h=>h) (Or.inl ⟨by rfl,?_⟩) ?_ ?_;rotate_left
         ·intro w'
          go_simp
          with_reducible rfl
         rotate_left
         ·simp only [Act.put,List.setIfInBounds_toArray,List.set_cons_zero,List.set_cons_succ,y0a,y0b]
          rfl
         refine one_ (i:=11) (N:=some 11) #[true,true,true,true,true,true,true,true,true,true,true,true,false] rfl rfl (y4j HT_.out (by kernel_rfl)) (by decide) (fun K hK=>?_);refine yd9 ?hg (N:=11) ?hd (cs:=#[.int .i64 0,.int .i64 0,.bool false]) (t:=28) ?hr ?_;(case hd=>rfl);(case hg=>rfl);(case hr=>(go_simp;done))
         intro gb226 hg w24 hbox hb;have n0_:=As0.mk (Kd.R_below (Kd.R_elderB (by (with_reducible repeat (first|apply Kd.R_alloc|apply Kd.R_drewN|apply Kd.R_drew));exact HO_7.out) gb226 (Nat.le_of_eq hg.symm)) hb);have n1_:=As0.mk (Kd.R_below (Kd.R_elderB (by (with_reducible repeat (first|apply Kd.R_alloc|apply Kd.R_drewN|apply Kd.R_drew));exact HO_8.out) gb226 (Nat.le_of_eq hg.symm)) hb);have n2_:=As0.mk (Kd.R_below (Kd.R_elderB (by (with_reducible repeat (first|apply Kd.R_alloc|apply Kd.R_drewN|apply Kd.R_drew));exact HO_9.out) gb226 (Nat.le_of_eq hg.symm)) hb);have n3_:=As0.mk (y04 (by repeat (with_reducible exact HB.out)) hb);have n4_:=As0.mk (hbox);have n5_:=As0.mk ((by rw [hg];exact (y05 (by repeat (with_reducible exact HB.out))):w.heap.size≤gb226));have n6_:=As0.mk ((by rw [hg];exact (y05 (by repeat (with_reducible exact HB.out))):w.heap.size≤gb226));clear HO_7;clear HO_8;clear HO_9;clear HB;have HO_7:=n0_;have HO_8:=n1_;have HO_9:=n2_;have HB:=n3_;have BK226:=n4_;have GW226:=n5_;have GE226:=n6_;clear n0_ n1_ n2_ n3_ n4_ n5_ n6_;clear hb hbox hg;refine hK.out _ _ ⟨((HB.out.cell (World.block_lt_of_cell? w _ hw224_0)).trans hw224_0),((HB.out.cell (World.block_lt_of_cell? w _ hw224_1)).trans hw224_1),((HB.out.cell (World.block_lt_of_cell? w _ hw224_2)).trans hw224_2),((HB.out.cell (World.block_lt_of_cell? w _ hw225_0)).trans hw225_0),((HB.out.cell (World.block_lt_of_cell? w _ hw225_1)).trans hw225_1),((HB.out.cell (World.block_lt_of_cell? w _ hw225_2)).trans hw225_2)⟩ (fun hHeld=>?_);clear hK K;refine y43 (a':=?_) ?_ ?_;rotate_left
         ·show Act.put _ (some 11) _=_
          simp only [Act.put,List.setIfInBounds_toArray,List.set_cons_zero,List.set_cons_succ,y0a,y0b];rfl
         refine one_ (i:=12) (N:=none) #[true,true,true,true,true,true,true,true,true,true,true,true,true] rfl rfl (y4j HT_.out (by kernel_rfl)) (by decide) (fun K hK=>?_);have hs25:w24.cell? ⟨gb226,0,none⟩=some (.int .i64 0):=(y07 BK226.out 0).trans rfl;have hfs25:=y09 BK226.out 0;have hs26:w24.cell? ⟨gb226,1,none⟩=some (.int .i64 0):=(y07 BK226.out 1).trans rfl;have hfs26:=y09 BK226.out 1;have hs27:w24.cell? ⟨gb226,2,none⟩=some (.bool false):=(y07 BK226.out 2).trans rfl;have hfs27:=y09 BK226.out 2;refine y5w (w1:=?_) (by rfl) rfl ?_ ?_;rotate_left
         ·go_simp
          rfl
         refine hK.out _ _ ⟨((y0t (p:=⟨gb226,_,none⟩) (by exact Nat.ne_of_lt (Nat.lt_of_lt_of_le (by have:=World.block_lt_of_cell? _ _ hw224_0;exact this) GW226.out)) _).trans (((y0t (p:=⟨gb226,_,none⟩) (by exact Nat.ne_of_lt (Nat.lt_of_lt_of_le (by have:=World.block_lt_of_cell? _ _ hw224_0;exact this) GW226.out)) _).trans (((y0t (p:=⟨gb226,_,none⟩) (by exact Nat.ne_of_lt (Nat.lt_of_lt_of_le (by have:=World.block_lt_of_cell? _ _ hw224_0;exact this) GW226.out)) _).trans (hHeld.1)))))),((y0t (p:=⟨gb226,_,none⟩) (by exact Nat.ne_of_lt (Nat.lt_of_lt_of_le (by have:=World.block_lt_of_cell? _ _ hw224_1;exact this) GW226.out)) _).trans (((y0t (p:=⟨gb226,_,none⟩) (by exact Nat.ne_of_lt (Nat.lt_of_lt_of_le (by have:=World.block_lt_of_cell? _ _ hw224_1;exact this) GW226.out)) _).trans (((y0t (p:=⟨gb226,_,none⟩) (by exact Nat.ne_of_lt (Nat.lt_of_lt_of_le (by have:=World.block_lt_of_cell? _ _ hw224_1;exact this) GW226.out)) _).trans (hHeld.2.1)))))),((y0t (p:=⟨gb226,_,none⟩) (by exact Nat.ne_of_lt (Nat.lt_of_lt_of_le (by have:=World.block_lt_of_cell? _ _ hw224_2;exact this) GW226.out)) _).trans (((y0t (p:=⟨gb226,_,none⟩) (by exact Nat.ne_of_lt (Nat.lt_of_lt_of_le (by have:=World.block_lt_of_cell? _ _ hw224_2;exact this) GW226.out)) _).trans (((y0t (p:=⟨gb226,_,none⟩) (by exact Nat.ne_of_lt (Nat.lt_of_lt_of_le (by have:=World.block_lt_of_cell? _ _ hw224_2;exact this) GW226.out)) _).trans (hHeld.2.2.1)))))),((y0t (p:=⟨gb226,_,none⟩) (by exact Nat.ne_of_lt (Nat.lt_of_lt_of_le (by have:=World.block_lt_of_cell? _ _ hw225_0;exact this) GW226.out)) _).trans (((y0t (p:=⟨gb226,_,none⟩) (by exact Nat.ne_of_lt (Nat.lt_of_lt_of_le (by have:=World.block_lt_of_cell? _ _ hw225_0;exact this) GW226.out)) _).trans (((y0t (p:=⟨gb226,_,none⟩) (by exact Nat.ne_of_lt (Nat.lt_of_lt_of_le (by have:=World.block_lt_of_cell? _ _ hw225_0;exact this) GW226.out)) _).trans (hHeld.2.2.2.1)))))),((y0t (p:=⟨gb226,_,none⟩) (by exact Nat.ne_of_lt (Nat.lt_of_lt_of_le (by have:=World.block_lt_of_cell? _ _ hw225_1;exact this) GW226.out)) _).trans (((y0t (p:=⟨gb226,_,none⟩) (by exact Nat.ne_of_lt (Nat.lt_of_lt_of_le (by have:=World.block_lt_of_cell? _ _ hw225_1;exact this) GW226.out)) _).trans (((y0t (p:=⟨gb226,_,none⟩) (by exact Nat.ne_of_lt (Nat.lt_of_lt_of_le (by have:=World.block_lt_of_cell? _ _ hw225_1;exact this) GW226.out)) _).trans (hHeld.2.2.2.2.1)))))),((y0t (p:=⟨gb226,_,none⟩) (by exact Nat.ne_of_lt (Nat.lt_of_lt_of_le (by have:=World.block_lt_of_cell? _ _ hw225_2;exact this) GW226.out)) _).trans (((y0t (p:=⟨gb226,_,none⟩) (by exact Nat.ne_of_lt (Nat.lt_of_lt_of_le (by have:=World.block_lt_of_cell? _ _ hw225_2;exact this) GW226.out)) _).trans (((y0t (p:=⟨gb226,_,none⟩) (by exact Nat.ne_of_lt (Nat.lt_of_lt_of_le (by have:=World.block_lt_of_cell? _ _ hw225_2;exact this) GW226.out)) _).trans (hHeld.2.2.2.2.2))))))⟩ (fun hHeld=>?_);clear hK K;refine y3x (y3p HT_.out (by kernel_rfl)) ?_;have hcz28_0:w24.cell? ⟨gb226,0,none⟩=some (.int .i64 0):=(y07 BK226.out 0).trans rfl;have hcz28_1:w24.cell? ⟨gb226,1,none⟩=some (.int .i64 0):=(y07 BK226.out 1).trans rfl;have hcz28_2:w24.cell? ⟨gb226,2,none⟩=some (.bool false):=(y07 BK226.out 2).trans rfl;have hfz28_0:=y09 BK226.out 0;have hfz28_1:=y09 BK226.out 1;have hfz28_2:=y09 BK226.out 2
         try go_wp2_with (first|((with_reducible refine y10 (b:=.append) (xs:=#[.tmp 50,.tmp 52]) rfl ?_);(try (refine y14 (by rfl) ?_;dsimp only));at_builtin;refine Kd.R_append k28 (w0:=w) w.heap.size rfl (.tmp 50) (.tmp 52) 22 28 (.agg #[(.int .i64 0),(.int .i64 0),(.bool false)]) 24 rfl Tra.underlying22 yd2 rfl (by decide) (by omega) u7 x7_1 (⟨(y0c l1 x10_1).f0,(y0c l1 x10_1).f1,false⟩:S28) [.int .i64 ((y0c l1 x10_1).f0),.int .i64 ((y0c l1 x10_1).f1),.bool false] (fun k_=>some k_≠(u8:Value).ownBlock∧some k_≠(u9:Value).ownBlock∧k_≠gb226) (fun _=>False) rfl (by (go_simp;done)) ?aP (fun _ hk=>hk.elim) ?aF ?aO ?aB ?aS ?aL ?_;(case aP=>exact y22 _ _ _ (⟨(y0c l1 x10_1).f0,(y0c l1 x10_1).f1,false⟩:S28));(case aB=>exact (by repeat (with_reducible first|exact HB.out|refine y0j ?_ GE226.out)));(case aF=>exact (fun k_ hk=>⟨Kd.fresh' (Kd.R_lt (by (with_reducible repeat (first|apply Kd.R_alloc|apply Kd.R_drewN|apply Kd.R_drew));exact (Kd.R_mono (Kd.R_far (p:=⟨gb226,2,none⟩) (Kd.R_far (p:=⟨gb226,1,none⟩) (Kd.R_far (p:=⟨gb226,0,none⟩) (Kd.R_mono HO_8.out (fun k_ hk=>(⟨hk,hk.2⟩:_∧k_≠gb226))) (fun _ hk=>hk.2) (.int .i64 ((y0c l1 x10_1).f0))) (fun _ hk=>hk.2) (.int .i64 ((y0c l1 x10_1).f1))) (fun _ hk=>hk.2) (.bool false)) (fun _ h_=>h_.1)))) k_ hk,Kd.fresh' (Kd.R_lt (by (with_reducible repeat (first|apply Kd.R_alloc|apply Kd.R_drewN|apply Kd.R_drew));exact (Kd.R_mono (Kd.R_far (p:=⟨gb226,2,none⟩) (Kd.R_far (p:=⟨gb226,1,none⟩) (Kd.R_far (p:=⟨gb226,0,none⟩) (Kd.R_mono HO_9.out (fun k_ hk=>(⟨hk,hk.2⟩:_∧k_≠gb226))) (fun _ hk=>hk.2) (.int .i64 ((y0c l1 x10_1).f0))) (fun _ hk=>hk.2) (.int .i64 ((y0c l1 x10_1).f1))) (fun _ hk=>hk.2) (.bool false)) (fun _ h_=>h_.1)))) k_ hk,Kd.freshB (g:=gb226) (o:=.cells #[.int .i64 ((y0c l1 x10_1).f0),.int .i64 ((y0c l1 x10_1).f1),.bool false] 28 (0,0)) (by (with_reducible repeat (first|refine y0f ?_ _|refine y0h ?_|refine y0d ?_ _));refine y0y (cs:=#[.int .i64 ((y0c l1 x10_1).f0),.int .i64 ((y0c l1 x10_1).f1),.bool false]) ?_ 2 _ rfl;(with_reducible repeat (first|refine y0f ?_ _|refine y0h ?_|refine y0d ?_ _));refine y0y (cs:=#[.int .i64 ((y0c l1 x10_1).f0),.int .i64 0,.bool false]) ?_ 1 _ rfl;(with_reducible repeat (first|refine y0f ?_ _|refine y0h ?_|refine y0d ?_ _));refine y0y (cs:=#[.int .i64 0,.int .i64 0,.bool false]) ?_ 0 _ rfl;(with_reducible repeat (first|refine y0f ?_ _|refine y0h ?_|refine y0d ?_ _));exact BK226.out) k_ hk⟩));(case aO=>exact (by (with_reducible repeat (first|apply Kd.R_alloc|apply Kd.R_drewN|apply Kd.R_drew));exact Kd.R_mono (Kd.R_far (p:=⟨gb226,2,none⟩) (Kd.R_far (p:=⟨gb226,1,none⟩) (Kd.R_far (p:=⟨gb226,0,none⟩) (Kd.R_mono HO_7.out (fun k_ hk=>(⟨hk,hk.2⟩:_∧k_≠gb226))) (fun _ hk=>hk.2) (.int .i64 ((y0c l1 x10_1).f0))) (fun _ hk=>hk.2) (.int .i64 ((y0c l1 x10_1).f1))) (fun _ hk=>hk.2) (.bool false)) (fun _ hk=>⟨hk.1.1.1,⟨hk.1.1.2,hk.1.2⟩⟩)));(case aS=>exact (y05 (by repeat (with_reducible first|exact HB.out|refine y0j ?_ GE226.out))));(case aL=>have:=LMc8.out;omega);intro v228 w29 ho hb hg hat;rw [← Ny227.out] at ho;have n0_:=As0.mk (Kd.R_after (ok:=(fun k_=>some k_≠(u9:Value).ownBlock∧k_≠gb226)) (by (with_reducible repeat (first|apply Kd.R_alloc|apply Kd.R_drewN|apply Kd.R_drew));exact Kd.R_mono (Kd.R_far (p:=⟨gb226,2,none⟩) (Kd.R_far (p:=⟨gb226,1,none⟩) (Kd.R_far (p:=⟨gb226,0,none⟩) (Kd.R_mono HO_8.out (fun k_ hk=>(⟨hk,hk.2⟩:_∧k_≠gb226))) (fun _ hk=>hk.2) (.int .i64 ((y0c l1 x10_1).f0))) (fun _ hk=>hk.2) (.int .i64 ((y0c l1 x10_1).f1))) (fun _ hk=>hk.2) (.bool false)) (fun _ hk=>⟨⟨hk.1.1.2,hk.1.2⟩,hk.1.1.1⟩)) hg hat);have n1_:=As0.mk (Kd.R_after (ok:=(fun k_=>some k_≠(u8:Value).ownBlock∧k_≠gb226)) (by (with_reducible repeat (first|apply Kd.R_alloc|apply Kd.R_drewN|apply Kd.R_drew));exact Kd.R_mono (Kd.R_far (p:=⟨gb226,2,none⟩) (Kd.R_far (p:=⟨gb226,1,none⟩) (Kd.R_far (p:=⟨gb226,0,none⟩) (Kd.R_mono HO_9.out (fun k_ hk=>(⟨hk,hk.2⟩:_∧k_≠gb226))) (fun _ hk=>hk.2) (.int .i64 ((y0c l1 x10_1).f0))) (fun _ hk=>hk.2) (.int .i64 ((y0c l1 x10_1).f1))) (fun _ hk=>hk.2) (.bool false)) (fun _ hk=>⟨⟨hk.1.1.2,hk.1.2⟩,hk.1.1.1⟩)) hg hat);have n2_:=As0.mk (blk_grown (g:=gb226) (o:=.cells #[.int .i64 ((y0c l1 x10_1).f0),.int .i64 ((y0c l1 x10_1).f1),.bool false] 28 (0,0)) (by (with_reducible repeat (first|refine y0f ?_ _|refine y0h ?_|refine y0d ?_ _));refine y0y (cs:=#[.int .i64 ((y0c l1 x10_1).f0),.int .i64 ((y0c l1 x10_1).f1),.bool false]) ?_ 2 _ rfl;(with_reducible repeat (first|refine y0f ?_ _|refine y0h ?_|refine y0d ?_ _));refine y0y (cs:=#[.int .i64 ((y0c l1 x10_1).f0),.int .i64 0,.bool false]) ?_ 1 _ rfl;(with_reducible repeat (first|refine y0f ?_ _|refine y0h ?_|refine y0d ?_ _));refine y0y (cs:=#[.int .i64 0,.int .i64 0,.bool false]) ?_ 0 _ rfl;(with_reducible repeat (first|refine y0f ?_ _|refine y0h ?_|refine y0d ?_ _));exact BK226.out) hg (Kd.R_away HO_7.out (fun _ hk=>hk.2)));have n3_:=As0.mk (hb);have n4_:=As0.mk (ho);clear HO_8;clear HO_9;clear BK226;clear HB;clear HO_7;have HO_8:=n0_;have HO_9:=n1_;have BK226:=n2_;have HB:=n3_;have HO229:=n4_;clear n0_ n1_ n2_ n3_ n4_;clear ho hb hg hat;have hcz30_0:w29.cell? ⟨gb226,0,none⟩=some (.int .i64 ((y0c l1 x10_1).f0)):=(y07 BK226.out 0).trans rfl;have hcz30_1:w29.cell? ⟨gb226,1,none⟩=some (.int .i64 ((y0c l1 x10_1).f1)):=(y07 BK226.out 1).trans rfl;have hcz30_2:w29.cell? ⟨gb226,2,none⟩=some (.bool false):=(y07 BK226.out 2).trans rfl;have hfz30_0:=y09 BK226.out 0;have hfz30_1:=y09 BK226.out 1;have hfz30_2:=y09 BK226.out 2)|((with_reducible refine y10 (b:=.append) (xs:=#[.tmp 63,.tmp 65]) rfl ?_);(try (refine y14 (by rfl) ?_;dsimp only));at_builtin;refine Kd.R_append k28 (w0:=w) w.heap.size rfl (.tmp 63) (.tmp 65) 22 28 (.agg #[(.int .i64 0),(.int .i64 0),(.bool false)]) 24 rfl Tra.underlying22 yd2 rfl (by decide) (by omega) u9 x9_1 (⟨(y0c l1 x10_1).f0,(y0c l1 x10_1).f1,false⟩:S28) [.int .i64 ((y0c l1 x10_1).f0),.int .i64 ((y0c l1 x10_1).f1),.bool false] (fun k_=>some k_≠(u8:Value).ownBlock∧some k_≠(v228:Value).ownBlock∧k_≠gb226) (fun _=>False) rfl rfl ?aP (fun _ hk=>hk.elim) ?aF ?aO ?aB ?aS ?aL ?_;(case aP=>exact y22 _ _ _ (⟨(y0c l1 x10_1).f0,(y0c l1 x10_1).f1,false⟩:S28));(case aB=>exact (by repeat (with_reducible exact HB.out)));(case aF=>exact (fun k_ hk=>⟨Kd.fresh' (Kd.R_lt (by (with_reducible repeat (first|apply Kd.R_alloc|apply Kd.R_drewN|apply Kd.R_drew));exact HO_8.out)) k_ hk,Kd.fresh' (Kd.R_lt (by (with_reducible repeat (first|apply Kd.R_alloc|apply Kd.R_drewN|apply Kd.R_drew));exact HO229.out)) k_ hk,Kd.freshB (g:=gb226) (o:=.cells #[.int .i64 ((y0c l1 x10_1).f0),.int .i64 ((y0c l1 x10_1).f1),.bool false] 28 (0,0)) (by (with_reducible repeat (first|refine y0f ?_ _|refine y0h ?_|refine y0d ?_ _));exact BK226.out) k_ hk⟩));(case aO=>exact (by (with_reducible repeat (first|apply Kd.R_alloc|apply Kd.R_drewN|apply Kd.R_drew));exact Kd.R_mono HO_9.out (fun _ hk=>⟨hk.1.1,⟨hk.2,hk.1.2⟩⟩)));(case aS=>exact (y05 (by repeat (with_reducible exact HB.out))));(case aL=>have:=LMc22.out;omega);intro v234 w31 ho hb hg hat;rw [← Ny233.out] at ho;have n0_:=As0.mk (Kd.R_after (ok:=(fun k_=>some k_≠(v228:Value).ownBlock∧k_≠gb226)) (by (with_reducible repeat (first|apply Kd.R_alloc|apply Kd.R_drewN|apply Kd.R_drew));exact Kd.R_mono HO_8.out (fun _ hk=>⟨⟨hk.2,hk.1.2⟩,hk.1.1⟩)) hg hat);have n1_:=As0.mk (blk_grown (g:=gb226) (o:=.cells #[.int .i64 ((y0c l1 x10_1).f0),.int .i64 ((y0c l1 x10_1).f1),.bool false] 28 (0,0)) (by (with_reducible repeat (first|refine y0f ?_ _|refine y0h ?_|refine y0d ?_ _));exact BK226.out) hg (Kd.R_away HO_9.out (fun _ hk=>hk.1.2)));have n2_:=As0.mk (Kd.R_after (ok:=(fun k_=>some k_≠(u8:Value).ownBlock∧k_≠gb226)) (by (with_reducible repeat (first|apply Kd.R_alloc|apply Kd.R_drewN|apply Kd.R_drew));exact Kd.R_mono HO229.out (fun _ hk=>⟨⟨hk.1,hk.2.2⟩,hk.2.1⟩)) hg hat);have n3_:=As0.mk (hb);have n4_:=As0.mk (ho);clear HO_8;clear BK226;clear HO229;clear HB;clear HO_9;have HO_8:=n0_;have BK226:=n1_;have HO229:=n2_;have HB:=n3_;have HO235:=n4_;clear n0_ n1_ n2_ n3_ n4_;clear ho hb hg hat))
         go_roundg k1
         case measure=>have:=HK1.out;omega
         case rel=>exact ⟨(y227),(x8_1),(y233),(wrap64 (x10_1+1)),(by rfl),H',⟨by have:=HK1.out;omega⟩,⟨by (with_reducible repeat (first|apply Kd.R_alloc|apply Kd.R_drewN|apply Kd.R_drew));exact Kd.R_mono HO229.out (fun _ hk=>⟨hk.1.1,hk.2⟩)⟩,⟨by (with_reducible repeat (first|apply Kd.R_alloc|apply Kd.R_drewN|apply Kd.R_drew));exact Kd.R_mono HO_8.out (fun _ hk=>⟨hk.1.1,hk.2⟩)⟩,⟨by (with_reducible repeat (first|apply Kd.R_alloc|apply Kd.R_drewN|apply Kd.R_drew));exact Kd.R_mono HO235.out (fun _ hk=>⟨hk.2.1,hk.1⟩)⟩,⟨by repeat (with_reducible exact HB.out)⟩⟩
        ·rw [if_neg c22] at H
         exact absurd H (by simp)
      ·rw [if_neg c8] at H
       exact absurd H (by simp)
     ·rw [if_neg c7] at H
      exact absurd H (by simp)
    ·rw [if_neg c6] at H
     have c6b0:decide (x10_1<(l1.length:Int))=false:=zDf c6;clear c6;replace H:=Option.bind_eq_some_iff.mp H;obtain ⟨⟨t236,t237⟩,A320,H⟩:=H;replace H:((feuds_Clans.f k1 a0 x8_1).bind fun bt240=>((feuds_Clans.f k1 a0 x9_1).bind fun bt244=>(if t237=0 then (if bt240.2=0 then (drovewaytop_TopJoined.j1 k1 a0 t236 bt240.1 bt244.1 (bt244.2 != 0)) else (drovewaytop_TopJoined.j1 k1 a0 t236 bt240.1 bt244.1 true)) else (drovewaytop_TopJoined.j1 k1 a0 t236 bt240.1 bt244.1 true))))=some r:=H;have A32:=As0.mk A320;clear A320;replace H:=Option.bind_eq_some_iff.mp H;obtain ⟨⟨t240,t241⟩,A330,H⟩:=H;replace H:((feuds_Clans.f k1 a0 x9_1).bind fun bt244=>(if t237=0 then (if t241=0 then (drovewaytop_TopJoined.j1 k1 a0 t236 t240 bt244.1 (bt244.2 != 0)) else (drovewaytop_TopJoined.j1 k1 a0 t236 t240 bt244.1 true)) else (drovewaytop_TopJoined.j1 k1 a0 t236 t240 bt244.1 true)))=some r:=H;have A33:=As0.mk A330;clear A330;replace H:=Option.bind_eq_some_iff.mp H;obtain ⟨⟨t244,t245⟩,A340,H⟩:=H;replace H:(if t237=0 then (if t241=0 then (drovewaytop_TopJoined.j1 k1 a0 t236 t240 t244 (t245 != 0)) else (drovewaytop_TopJoined.j1 k1 a0 t236 t240 t244 true)) else (drovewaytop_TopJoined.j1 k1 a0 t236 t240 t244 true))=some r:=H;have A34:=As0.mk A340;clear A340;have HC35:=As0.mk H;clear H;obtain ⟨Ao36,co36,eo36⟩:=Kd.R_slice HO_7.out;subst eo36;go_upto_region 15 with (first|((with_reducible refine y08 (f:=6) rfl ?_);refine y0n (some 70) rfl rfl Tra.func6 (by kernel_rfl) rfl #[.int .i64 a0,.slice Ao36 x7_1.length co36] rfl (by (try simp only [List.map_toArray,List.map_cons,List.map_nil]);rfl) ?_;(with_reducible refine (feuds_Clans.calls k1 a0 _ _ x7_1 t236 t237 _ ?side1 ?side2 A32.out).mono ?_);(case side1=>repeat (exact (Kd.R_reads' HO_7.out).2.2));(case side2=>exact (Kd.R_reads' HO_7.out).2.1);rintro e w37 ⟨v238,rfl,ho0,hb⟩;refine ⟨_,rfl,?_⟩;have n0_:=As0.mk (Kd.R_below (by (with_reducible repeat (first|apply Kd.R_alloc|apply Kd.R_drewN|apply Kd.R_drew));exact HO_7.out) hb);have n1_:=As0.mk (Kd.R_below (by (with_reducible repeat (first|apply Kd.R_alloc|apply Kd.R_drewN|apply Kd.R_drew));exact HO_8.out) hb);have n2_:=As0.mk (Kd.R_below (by (with_reducible repeat (first|apply Kd.R_alloc|apply Kd.R_drewN|apply Kd.R_drew));exact HO_9.out) hb);have n3_:=As0.mk (Kd.R_lower ho0 (y05 (by repeat (with_reducible exact HB.out))));have n4_:=As0.mk (y04 (by repeat (with_reducible exact HB.out)) hb);clear HO_7;clear HO_8;clear HO_9;clear HB;have HO_7:=n0_;have HO_8:=n1_;have HO_9:=n2_;have HO239:=n3_;have HB:=n4_;clear n0_ n1_ n2_ n3_ n4_;(try clear hb);(try clear hb2);(try clear hk);(try clear hi);(try clear ho0);obtain ⟨Ao38,co38,eo38⟩:=Kd.R_slice HO_8.out;subst eo38)|((with_reducible refine y08 (f:=6) rfl ?_);refine y0n (some 76) rfl rfl Tra.func6 (by kernel_rfl) rfl #[.int .i64 a0,.slice Ao38 x8_1.length co38] rfl (by (try simp only [List.map_toArray,List.map_cons,List.map_nil]);rfl) ?_;(with_reducible refine (feuds_Clans.calls k1 a0 _ _ x8_1 t240 t241 _ ?side1 ?side2 A33.out).mono ?_);(case side1=>repeat (exact (Kd.R_reads' HO_8.out).2.2));(case side2=>exact (Kd.R_reads' HO_8.out).2.1);rintro e w39 ⟨v242,rfl,ho0,hb⟩;refine ⟨_,rfl,?_⟩;have n0_:=As0.mk (Kd.R_below (by (with_reducible repeat (first|apply Kd.R_alloc|apply Kd.R_drewN|apply Kd.R_drew));exact HO_7.out) hb);have n1_:=As0.mk (Kd.R_below (by (with_reducible repeat (first|apply Kd.R_alloc|apply Kd.R_drewN|apply Kd.R_drew));exact HO_8.out) hb);have n2_:=As0.mk (Kd.R_below (by (with_reducible repeat (first|apply Kd.R_alloc|apply Kd.R_drewN|apply Kd.R_drew));exact HO_9.out) hb);have n3_:=As0.mk (Kd.R_elder' (by (with_reducible repeat (first|apply Kd.R_alloc|apply Kd.R_drewN|apply Kd.R_drew));exact HO239.out) (Kd.R_base ho0) hb);have n4_:=As0.mk (Kd.R_lower (Kd.R_new' ho0 (Kd.R_lt (by (with_reducible repeat (first|apply Kd.R_alloc|apply Kd.R_drewN|apply Kd.R_drew));exact HO239.out))) (y05 (by repeat (with_reducible exact HB.out))));have n5_:=As0.mk (y04 (by repeat (with_reducible exact HB.out)) hb);clear HO_7;clear HO_8;clear HO_9;clear HO239;clear HB;have HO_7:=n0_;have HO_8:=n1_;have HO_9:=n2_;have HO239:=n3_;have HO243:=n4_;have HB:=n5_;clear n0_ n1_ n2_ n3_ n4_ n5_;(try clear hb);(try clear hb2);(try clear hk);(try clear hi);(try clear ho0);obtain ⟨Ao40,co40,eo40⟩:=Kd.R_slice HO_9.out;subst eo40)|((with_reducible refine y08 (f:=6) rfl ?_);refine y0n (some 82) rfl rfl Tra.func6 (by kernel_rfl) rfl #[.int .i64 a0,.slice Ao40 x9_1.length co40] rfl (by (try simp only [List.map_toArray,List.map_cons,List.map_nil]);rfl) ?_;(with_reducible refine (feuds_Clans.calls k1 a0 _ _ x9_1 t244 t245 _ ?side1 ?side2 A34.out).mono ?_);(case side1=>repeat (exact (Kd.R_reads' HO_9.out).2.2));(case side2=>exact (Kd.R_reads' HO_9.out).2.1);rintro e w41 ⟨v246,rfl,ho0,hb⟩;refine ⟨_,rfl,?_⟩;have n0_:=As0.mk (Kd.R_below (by (with_reducible repeat (first|apply Kd.R_alloc|apply Kd.R_drewN|apply Kd.R_drew));exact HO_7.out) hb);have n1_:=As0.mk (Kd.R_below (by (with_reducible repeat (first|apply Kd.R_alloc|apply Kd.R_drewN|apply Kd.R_drew));exact HO_8.out) hb);have n2_:=As0.mk (Kd.R_below (by (with_reducible repeat (first|apply Kd.R_alloc|apply Kd.R_drewN|apply Kd.R_drew));exact HO_9.out) hb);have n3_:=As0.mk (Kd.R_elder' (by (with_reducible repeat (first|apply Kd.R_alloc|apply Kd.R_drewN|apply Kd.R_drew));exact HO239.out) (Kd.R_base ho0) hb);have n4_:=As0.mk (Kd.R_elder' (by (with_reducible repeat (first|apply Kd.R_alloc|apply Kd.R_drewN|apply Kd.R_drew));exact HO243.out) (Kd.R_base ho0) hb);have n5_:=As0.mk (Kd.R_lower (Kd.R_new' (Kd.R_new' ho0 (Kd.R_lt (by (with_reducible repeat (first|apply Kd.R_alloc|apply Kd.R_drewN|apply Kd.R_drew));exact HO239.out))) (Kd.R_lt (by (with_reducible repeat (first|apply Kd.R_alloc|apply Kd.R_drewN|apply Kd.R_drew));exact HO243.out))) (y05 (by repeat (with_reducible exact HB.out))));have n6_:=As0.mk (y04 (by repeat (with_reducible exact HB.out)) hb);clear HO_7;clear HO_8;clear HO_9;clear HO239;clear HO243;clear HB;have HO_7:=n0_;have HO_8:=n1_;have HO_9:=n2_;have HO239:=n3_;have HO243:=n4_;have HO247:=n5_;have HB:=n6_;clear n0_ n1_ n2_ n3_ n4_ n5_ n6_;(try clear hb);(try clear hb2);(try clear hk);(try clear hi);(try clear ho0)))
     (try simp only [Act.put,List.setIfInBounds_toArray,List.set_cons_zero,List.set_cons_succ])
     go_cut [94] (fun v94 wc=>∃ (kq:Nat) (x94_34:Bool),v94=.bool x94_34∧As0 (drovewaytop_TopJoined.j1 kq a0 t236 t240 t244 x94_34=some r)∧As0 (kq≤k1)∧As0 (Kd.R (Kd.int .i64) 3 wc w.heap.size (fun k_=>some k_≠(v242:Value).ownBlock∧some k_≠(v246:Value).ownBlock) v238 t236)∧As0 (Kd.R (Kd.int .i64) 3 wc w.heap.size (fun k_=>some k_≠(v238:Value).ownBlock∧some k_≠(v246:Value).ownBlock) v242 t240)∧As0 (Kd.R (Kd.int .i64) 3 wc w.heap.size (fun k_=>some k_≠(v238:Value).ownBlock∧some k_≠(v242:Value).ownBlock) v246 t244)∧As0 (Below w.heap.size w wc))
     case first =>
      have H:=HC35.out;clear HC35
      by_cases c42:t237=0
      ·rw [if_pos c42] at H
       have c42b0:(t237 == 0)=true:=beq_iff_eq.mpr c42;have c42b1:(t237 != 0)=false:=bne_eq_false_iff_eq.mpr c42;clear c42
       (skip)
       by_cases c43:t241=0
       ·rw [if_pos c43] at H
        have c43b0:(t241 == 0)=true:=beq_iff_eq.mpr c43;have c43b1:(t241 != 0)=false:=bne_eq_false_iff_eq.mpr c43;clear c43;have H':=As0.mk H;clear H;go_wp2
        go_meet
        case rel=>exact ⟨_,((t245 != 0)),(by rfl),H',⟨by have:=HK1.out;omega⟩,⟨by (with_reducible repeat (first|apply Kd.R_alloc|apply Kd.R_drewN|apply Kd.R_drew));exact Kd.R_mono HO239.out (fun _ hk=>⟨hk.1.2,hk.2⟩)⟩,⟨by (with_reducible repeat (first|apply Kd.R_alloc|apply Kd.R_drewN|apply Kd.R_drew));exact Kd.R_mono HO243.out (fun _ hk=>⟨hk.1.2,hk.2⟩)⟩,⟨by (with_reducible repeat (first|apply Kd.R_alloc|apply Kd.R_drewN|apply Kd.R_drew));exact Kd.R_mono HO247.out (fun _ hk=>⟨hk.1.2,hk.2⟩)⟩,⟨by repeat (with_reducible exact HB.out)⟩⟩
       ·rw [if_neg c43] at H
        have c43b0:(t241 == 0)=false:=beq_eq_false_iff_ne.mpr c43;have c43b1:(t241 != 0)=true:=bne_iff_ne.mpr c43;have H':=As0.mk H;clear H;go_wp2
        go_meet
        case rel=>exact ⟨_,(true),(by rfl),H',⟨by have:=HK1.out;omega⟩,⟨by (with_reducible repeat (first|apply Kd.R_alloc|apply Kd.R_drewN|apply Kd.R_drew));exact Kd.R_mono HO239.out (fun _ hk=>⟨hk.1.2,hk.2⟩)⟩,⟨by (with_reducible repeat (first|apply Kd.R_alloc|apply Kd.R_drewN|apply Kd.R_drew));exact Kd.R_mono HO243.out (fun _ hk=>⟨hk.1.2,hk.2⟩)⟩,⟨by (with_reducible repeat (first|apply Kd.R_alloc|apply Kd.R_drewN|apply Kd.R_drew));exact Kd.R_mono HO247.out (fun _ hk=>⟨hk.1.2,hk.2⟩)⟩,⟨by repeat (with_reducible exact HB.out)⟩⟩
      ·rw [if_neg c42] at H
       have c42b0:(t237 == 0)=false:=beq_eq_false_iff_ne.mpr c42;have c42b1:(t237 != 0)=true:=bne_iff_ne.mpr c42
       (skip)
       have H':=As0.mk H;clear H;go_wp2
       go_meet
       case rel=>exact ⟨_,(true),(by rfl),H',⟨by have:=HK1.out;omega⟩,⟨by (with_reducible repeat (first|apply Kd.R_alloc|apply Kd.R_drewN|apply Kd.R_drew));exact Kd.R_mono HO239.out (fun _ hk=>⟨hk.1.2,hk.2⟩)⟩,⟨by (with_reducible repeat (first|apply Kd.R_alloc|apply Kd.R_drewN|apply Kd.R_drew));exact Kd.R_mono HO243.out (fun _ hk=>⟨hk.1.2,hk.2⟩)⟩,⟨by (with_reducible repeat (first|apply Kd.R_alloc|apply Kd.R_drewN|apply Kd.R_drew));exact Kd.R_mono HO247.out (fun _ hk=>⟨hk.1.2,hk.2⟩)⟩,⟨by repeat (with_reducible exact HB.out)⟩⟩
     case rest =>
      clear HC35
      try clear c1
      try clear c2
      try clear p2
      try clear q2
      try clear hx2
      try clear c3
      try clear c4
      try clear c5
      try clear c5b0
      try clear c5b1
      try clear c6
      try clear c6b0
      try clear p6
      try clear c7
      try clear c7b0
      try clear c8
      try clear c9
      try clear c9b0
      try clear c11
      try clear c11b0
      try clear c11b1
      try clear c12
      try clear c22
      try clear p22
      try clear q22
      try clear hx22
      try clear c42
      try clear c42b0
      try clear c42b1
      try clear c43
      try clear c43b0
      try clear c43b1
      try clear hcz18_0
      try clear hcz18_1
      try clear hcz18_2
      try clear hcz20_0
      try clear hcz20_1
      try clear hcz20_2
      try clear hcz28_0
      try clear hcz28_1
      try clear hcz28_2
      try clear hcz30_0
      try clear hcz30_1
      try clear hcz30_2
      try clear hfz18_0
      try clear hfz18_1
      try clear hfz18_2
      try clear hfz20_0
      try clear hfz20_1
      try clear hfz20_2
      try clear hfz28_0
      try clear hfz28_1
      try clear hfz28_2
      try clear hfz30_0
      try clear hfz30_1
      try clear hfz30_2
      try clear hx224_0
      try clear hx224_1
      try clear hx224_2
      try clear hx225_0
      try clear hx225_1
      try clear hx225_2
      try clear p2
      try clear p224
      try clear p225
      try clear q224
      try clear q225
      obtain ⟨kq,x94_34,rfl,HA,HJ34,HO_12,HO_14,HO_16,HB⟩:=hcut;cases kq with
      |zero=>exact absurd HA.out (by simp [drovewaytop_TopJoined.j1])
      |succ kj34 =>
       have H:=HA.out;clear HA;simp only [drovewaytop_TopJoined.j1] at H
       by_cases c44:x94_34=true
       ·subst c44
        have H1:(some false)=some r:=by rw [if_pos rfl] at H;exact H
        clear H;have H:=H1;clear H1;obtain rfl:=zSi H;go_wp2
        go_ret
        exact ⟨by rfl,by repeat (with_reducible exact HB.out)⟩
       ·replace c44:=Bool.eq_false_iff.mpr c44
        subst c44;have H1:((drovewaytop_parting.f kj34 a0 t236).bind fun t248=>((mobs_Number.f t248).bind fun bt251=>((drovewaytop_parting.f kj34 a0 t240).bind fun t255=>((mobs_Number.f t255).bind fun bt258=>((drovewaytop_parting.f kj34 a0 t244).bind fun t262=>((mobs_Number.f t262).bind fun bt265=>((mobs_Meet.f kj34 bt258.1 bt265.1).bind fun bt269=>(if bt251.2=0 then (if bt258.2=0 then (if bt265.2=0 then (if bt269.2.2=0 then (if (bt251.1.length:Int)=a0 then (drovewaytop_TopJoined.j2 kj34 a0 bt251.1 bt269.2.1 ((bt269.2.1.length:Int) != a0)) else (drovewaytop_TopJoined.j2 kj34 a0 bt251.1 bt269.2.1 true)) else (drovewaytop_TopJoined.j2 kj34 a0 bt251.1 bt269.2.1 true)) else (drovewaytop_TopJoined.j2 kj34 a0 bt251.1 bt269.2.1 true)) else (drovewaytop_TopJoined.j2 kj34 a0 bt251.1 bt269.2.1 true)) else (drovewaytop_TopJoined.j2 kj34 a0 bt251.1 bt269.2.1 true)))))))))=some r:=by rw [if_neg (show ¬ (false=true) by decide)] at H;exact H
        clear H;have H:=H1;clear H1;replace H:=Option.bind_eq_some_iff.mp H;obtain ⟨t248,A450,H⟩:=H;replace H:((mobs_Number.f t248).bind fun bt251=>((drovewaytop_parting.f kj34 a0 t240).bind fun t255=>((mobs_Number.f t255).bind fun bt258=>((drovewaytop_parting.f kj34 a0 t244).bind fun t262=>((mobs_Number.f t262).bind fun bt265=>((mobs_Meet.f kj34 bt258.1 bt265.1).bind fun bt269=>(if bt251.2=0 then (if bt258.2=0 then (if bt265.2=0 then (if bt269.2.2=0 then (if (bt251.1.length:Int)=a0 then (drovewaytop_TopJoined.j2 kj34 a0 bt251.1 bt269.2.1 ((bt269.2.1.length:Int) != a0)) else (drovewaytop_TopJoined.j2 kj34 a0 bt251.1 bt269.2.1 true)) else (drovewaytop_TopJoined.j2 kj34 a0 bt251.1 bt269.2.1 true)) else (drovewaytop_TopJoined.j2 kj34 a0 bt251.1 bt269.2.1 true)) else (drovewaytop_TopJoined.j2 kj34 a0 bt251.1 bt269.2.1 true)) else (drovewaytop_TopJoined.j2 kj34 a0 bt251.1 bt269.2.1 true))))))))=some r:=H;have A45:=As0.mk A450;clear A450;replace H:=Option.bind_eq_some_iff.mp H;obtain ⟨⟨t251,t252⟩,A460,H⟩:=H;replace H:((drovewaytop_parting.f kj34 a0 t240).bind fun t255=>((mobs_Number.f t255).bind fun bt258=>((drovewaytop_parting.f kj34 a0 t244).bind fun t262=>((mobs_Number.f t262).bind fun bt265=>((mobs_Meet.f kj34 bt258.1 bt265.1).bind fun bt269=>(if t252=0 then (if bt258.2=0 then (if bt265.2=0 then (if bt269.2.2=0 then (if (t251.length:Int)=a0 then (drovewaytop_TopJoined.j2 kj34 a0 t251 bt269.2.1 ((bt269.2.1.length:Int) != a0)) else (drovewaytop_TopJoined.j2 kj34 a0 t251 bt269.2.1 true)) else (drovewaytop_TopJoined.j2 kj34 a0 t251 bt269.2.1 true)) else (drovewaytop_TopJoined.j2 kj34 a0 t251 bt269.2.1 true)) else (drovewaytop_TopJoined.j2 kj34 a0 t251 bt269.2.1 true)) else (drovewaytop_TopJoined.j2 kj34 a0 t251 bt269.2.1 true)))))))=some r:=H;have A46:=As0.mk A460;clear A460;replace H:=Option.bind_eq_some_iff.mp H;obtain ⟨t255,A470,H⟩:=H;replace H:((mobs_Number.f t255).bind fun bt258=>((drovewaytop_parting.f kj34 a0 t244).bind fun t262=>((mobs_Number.f t262).bind fun bt265=>((mobs_Meet.f kj34 bt258.1 bt265.1).bind fun bt269=>(if t252=0 then (if bt258.2=0 then (if bt265.2=0 then (if bt269.2.2=0 then (if (t251.length:Int)=a0 then (drovewaytop_TopJoined.j2 kj34 a0 t251 bt269.2.1 ((bt269.2.1.length:Int) != a0)) else (drovewaytop_TopJoined.j2 kj34 a0 t251 bt269.2.1 true)) else (drovewaytop_TopJoined.j2 kj34 a0 t251 bt269.2.1 true)) else (drovewaytop_TopJoined.j2 kj34 a0 t251 bt269.2.1 true)) else (drovewaytop_TopJoined.j2 kj34 a0 t251 bt269.2.1 true)) else (drovewaytop_TopJoined.j2 kj34 a0 t251 bt269.2.1 true))))))=some r:=H;have A47:=As0.mk A470;clear A470;replace H:=Option.bind_eq_some_iff.mp H;obtain ⟨⟨t258,t259⟩,A480,H⟩:=H;replace H:((drovewaytop_parting.f kj34 a0 t244).bind fun t262=>((mobs_Number.f t262).bind fun bt265=>((mobs_Meet.f kj34 t258 bt265.1).bind fun bt269=>(if t252=0 then (if t259=0 then (if bt265.2=0 then (if bt269.2.2=0 then (if (t251.length:Int)=a0 then (drovewaytop_TopJoined.j2 kj34 a0 t251 bt269.2.1 ((bt269.2.1.length:Int) != a0)) else (drovewaytop_TopJoined.j2 kj34 a0 t251 bt269.2.1 true)) else (drovewaytop_TopJoined.j2 kj34 a0 t251 bt269.2.1 true)) else (drovewaytop_TopJoined.j2 kj34 a0 t251 bt269.2.1 true)) else (drovewaytop_TopJoined.j2 kj34 a0 t251 bt269.2.1 true)) else (drovewaytop_TopJoined.j2 kj34 a0 t251 bt269.2.1 true)))))=some r:=H;have A48:=As0.mk A480;clear A480;replace H:=Option.bind_eq_some_iff.mp H;obtain ⟨t262,A490,H⟩:=H;replace H:((mobs_Number.f t262).bind fun bt265=>((mobs_Meet.f kj34 t258 bt265.1).bind fun bt269=>(if t252=0 then (if t259=0 then (if bt265.2=0 then (if bt269.2.2=0 then (if (t251.length:Int)=a0 then (drovewaytop_TopJoined.j2 kj34 a0 t251 bt269.2.1 ((bt269.2.1.length:Int) != a0)) else (drovewaytop_TopJoined.j2 kj34 a0 t251 bt269.2.1 true)) else (drovewaytop_TopJoined.j2 kj34 a0 t251 bt269.2.1 true)) else (drovewaytop_TopJoined.j2 kj34 a0 t251 bt269.2.1 true)) else (drovewaytop_TopJoined.j2 kj34 a0 t251 bt269.2.1 true)) else (drovewaytop_TopJoined.j2 kj34 a0 t251 bt269.2.1 true))))=some r:=H;have A49:=As0.mk A490;clear A490;replace H:=Option.bind_eq_some_iff.mp H;obtain ⟨⟨t265,t266⟩,A500,H⟩:=H;replace H:((mobs_Meet.f kj34 t258 t265).bind fun bt269=>(if t252=0 then (if t259=0 then (if t266=0 then (if bt269.2.2=0 then (if (t251.length:Int)=a0 then (drovewaytop_TopJoined.j2 kj34 a0 t251 bt269.2.1 ((bt269.2.1.length:Int) != a0)) else (drovewaytop_TopJoined.j2 kj34 a0 t251 bt269.2.1 true)) else (drovewaytop_TopJoined.j2 kj34 a0 t251 bt269.2.1 true)) else (drovewaytop_TopJoined.j2 kj34 a0 t251 bt269.2.1 true)) else (drovewaytop_TopJoined.j2 kj34 a0 t251 bt269.2.1 true)) else (drovewaytop_TopJoined.j2 kj34 a0 t251 bt269.2.1 true)))=some r:=H;have A50:=As0.mk A500;clear A500;replace H:=Option.bind_eq_some_iff.mp H;obtain ⟨⟨t269,t272,t275⟩,A510,H⟩:=H;replace H:(if t252=0 then (if t259=0 then (if t266=0 then (if t275=0 then (if (t251.length:Int)=a0 then (drovewaytop_TopJoined.j2 kj34 a0 t251 t272 ((t272.length:Int) != a0)) else (drovewaytop_TopJoined.j2 kj34 a0 t251 t272 true)) else (drovewaytop_TopJoined.j2 kj34 a0 t251 t272 true)) else (drovewaytop_TopJoined.j2 kj34 a0 t251 t272 true)) else (drovewaytop_TopJoined.j2 kj34 a0 t251 t272 true)) else (drovewaytop_TopJoined.j2 kj34 a0 t251 t272 true))=some r:=H;have A51:=As0.mk A510;clear A510;have HC52:=As0.mk H;clear H;obtain ⟨Ao53,co53,eo53⟩:=Kd.R_slice HO_12.out;subst eo53;go_upto_region 21 with (first|((with_reducible refine y08 (f:=8) rfl ?_);refine y0n (some 98) rfl rfl Tra.func8 (by kernel_rfl) rfl #[.int .i64 a0,.slice Ao53 t236.length co53] rfl (by (try simp only [List.map_toArray,List.map_cons,List.map_nil]);rfl) ?_;(with_reducible refine (drovewaytop_parting.calls kj34 a0 _ _ t236 t248 _ ?side1 ?side2 A45.out).mono ?_);(case side1=>repeat (exact (Kd.R_reads' HO_12.out).2.2));(case side2=>exact (Kd.R_reads' HO_12.out).2.1);rintro e w54 ⟨v249,rfl,ho0,hb⟩;refine ⟨_,rfl,?_⟩;have n0_:=As0.mk (Kd.R_elder' (by (with_reducible repeat (first|apply Kd.R_alloc|apply Kd.R_drewN|apply Kd.R_drew));exact HO_12.out) (Kd.R_base ho0) hb);have n1_:=As0.mk (Kd.R_elder' (by (with_reducible repeat (first|apply Kd.R_alloc|apply Kd.R_drewN|apply Kd.R_drew));exact HO_14.out) (Kd.R_base ho0) hb);have n2_:=As0.mk (Kd.R_elder' (by (with_reducible repeat (first|apply Kd.R_alloc|apply Kd.R_drewN|apply Kd.R_drew));exact HO_16.out) (Kd.R_base ho0) hb);have n3_:=As0.mk (Kd.R_lower (Kd.R_new' (Kd.R_new' (Kd.R_new' ho0 (Kd.R_lt (by (with_reducible repeat (first|apply Kd.R_alloc|apply Kd.R_drewN|apply Kd.R_drew));exact HO_12.out))) (Kd.R_lt (by (with_reducible repeat (first|apply Kd.R_alloc|apply Kd.R_drewN|apply Kd.R_drew));exact HO_14.out))) (Kd.R_lt (by (with_reducible repeat (first|apply Kd.R_alloc|apply Kd.R_drewN|apply Kd.R_drew));exact HO_16.out))) (y05 (by repeat (with_reducible exact HB.out))));have n4_:=As0.mk (y04 (by repeat (with_reducible exact HB.out)) hb);clear HO_12;clear HO_14;clear HO_16;clear HB;have HO_12:=n0_;have HO_14:=n1_;have HO_16:=n2_;have HO250:=n3_;have HB:=n4_;clear n0_ n1_ n2_ n3_ n4_;(try clear hb);(try clear hb2);(try clear hk);(try clear hi);(try clear ho0);obtain ⟨Ao55,co55,eo55⟩:=Kd.R_slice HO250.out;subst eo55)|((with_reducible refine y08 (f:=7) rfl ?_);refine y0n (some 99) rfl rfl Tra.func7 (by kernel_rfl) rfl #[.slice Ao55 t248.length co55] rfl (by (try simp only [List.map_toArray,List.map_cons,List.map_nil]);rfl) ?_;(with_reducible refine (mobs_Number.calls _ _ t248 t251 t252 _ ?side1 ?side2 A46.out).mono ?_);(case side1=>repeat (exact (Kd.R_reads' HO250.out).2.2));(case side2=>exact (Kd.R_reads' HO250.out).2.1);rintro e w56 ⟨v253,rfl,ho0,hb⟩;refine ⟨_,rfl,?_⟩;have n0_:=As0.mk (Kd.R_elder' (by (with_reducible repeat (first|apply Kd.R_alloc|apply Kd.R_drewN|apply Kd.R_drew));exact HO_12.out) (Kd.R_base ho0) hb);have n1_:=As0.mk (Kd.R_elder' (by (with_reducible repeat (first|apply Kd.R_alloc|apply Kd.R_drewN|apply Kd.R_drew));exact HO_14.out) (Kd.R_base ho0) hb);have n2_:=As0.mk (Kd.R_elder' (by (with_reducible repeat (first|apply Kd.R_alloc|apply Kd.R_drewN|apply Kd.R_drew));exact HO_16.out) (Kd.R_base ho0) hb);have n3_:=As0.mk (Kd.R_elder' (by (with_reducible repeat (first|apply Kd.R_alloc|apply Kd.R_drewN|apply Kd.R_drew));exact HO250.out) (Kd.R_base ho0) hb);have n4_:=As0.mk (Kd.R_lower (Kd.R_new' (Kd.R_new' (Kd.R_new' (Kd.R_new' ho0 (Kd.R_lt (by (with_reducible repeat (first|apply Kd.R_alloc|apply Kd.R_drewN|apply Kd.R_drew));exact HO_12.out))) (Kd.R_lt (by (with_reducible repeat (first|apply Kd.R_alloc|apply Kd.R_drewN|apply Kd.R_drew));exact HO_14.out))) (Kd.R_lt (by (with_reducible repeat (first|apply Kd.R_alloc|apply Kd.R_drewN|apply Kd.R_drew));exact HO_16.out))) (Kd.R_lt (by (with_reducible repeat (first|apply Kd.R_alloc|apply Kd.R_drewN|apply Kd.R_drew));exact HO250.out))) (y05 (by repeat (with_reducible exact HB.out))));have n5_:=As0.mk (y04 (by repeat (with_reducible exact HB.out)) hb);clear HO_12;clear HO_14;clear HO_16;clear HO250;clear HB;have HO_12:=n0_;have HO_14:=n1_;have HO_16:=n2_;have HO250:=n3_;have HO254:=n4_;have HB:=n5_;clear n0_ n1_ n2_ n3_ n4_ n5_;(try clear hb);(try clear hb2);(try clear hk);(try clear hi);(try clear ho0);obtain ⟨Ao57,co57,eo57⟩:=Kd.R_slice HO_14.out;subst eo57)|((with_reducible refine y08 (f:=8) rfl ?_);refine y0n (some 105) rfl rfl Tra.func8 (by kernel_rfl) rfl #[.int .i64 a0,.slice Ao57 t240.length co57] rfl (by (try simp only [List.map_toArray,List.map_cons,List.map_nil]);rfl) ?_;(with_reducible refine (drovewaytop_parting.calls kj34 a0 _ _ t240 t255 _ ?side1 ?side2 A47.out).mono ?_);(case side1=>repeat (exact (Kd.R_reads' HO_14.out).2.2));(case side2=>exact (Kd.R_reads' HO_14.out).2.1);rintro e w58 ⟨v256,rfl,ho0,hb⟩;refine ⟨_,rfl,?_⟩;have n0_:=As0.mk (Kd.R_elder' (by (with_reducible repeat (first|apply Kd.R_alloc|apply Kd.R_drewN|apply Kd.R_drew));exact HO_12.out) (Kd.R_base ho0) hb);have n1_:=As0.mk (Kd.R_elder' (by (with_reducible repeat (first|apply Kd.R_alloc|apply Kd.R_drewN|apply Kd.R_drew));exact HO_14.out) (Kd.R_base ho0) hb);have n2_:=As0.mk (Kd.R_elder' (by (with_reducible repeat (first|apply Kd.R_alloc|apply Kd.R_drewN|apply Kd.R_drew));exact HO_16.out) (Kd.R_base ho0) hb);have n3_:=As0.mk (Kd.R_elder' (by (with_reducible repeat (first|apply Kd.R_alloc|apply Kd.R_drewN|apply Kd.R_drew));exact HO250.out) (Kd.R_base ho0) hb);have n4_:=As0.mk (Kd.R_elder' (by (with_reducible repeat (first|apply Kd.R_alloc|apply Kd.R_drewN|apply Kd.R_drew));exact HO254.out) (Kd.R_base ho0) hb);have n5_:=As0.mk (Kd.R_lower (Kd.R_new' (Kd.R_new' (Kd.R_new' (Kd.R_new' (Kd.R_new' ho0 (Kd.R_lt (by (with_reducible repeat (first|apply Kd.R_alloc|apply Kd.R_drewN|apply Kd.R_drew));exact HO_12.out))) (Kd.R_lt (by (with_reducible repeat (first|apply Kd.R_alloc|apply Kd.R_drewN|apply Kd.R_drew));exact HO_14.out))) (Kd.R_lt (by (with_reducible repeat (first|apply Kd.R_alloc|apply Kd.R_drewN|apply Kd.R_drew));exact HO_16.out))) (Kd.R_lt (by (with_reducible repeat (first|apply Kd.R_alloc|apply Kd.R_drewN|apply Kd.R_drew));exact HO250.out))) (Kd.R_lt (by (with_reducible repeat (first|apply Kd.R_alloc|apply Kd.R_drewN|apply Kd.R_drew));exact HO254.out))) (y05 (by repeat (with_reducible exact HB.out))));have n6_:=As0.mk (y04 (by repeat (with_reducible exact HB.out)) hb);clear HO_12;clear HO_14;clear HO_16;clear HO250;clear HO254;clear HB;have HO_12:=n0_;have HO_14:=n1_;have HO_16:=n2_;have HO250:=n3_;have HO254:=n4_;have HO257:=n5_;have HB:=n6_;clear n0_ n1_ n2_ n3_ n4_ n5_ n6_;(try clear hb);(try clear hb2);(try clear hk);(try clear hi);(try clear ho0);obtain ⟨Ao59,co59,eo59⟩:=Kd.R_slice HO257.out;subst eo59)|((with_reducible refine y08 (f:=7) rfl ?_);refine y0n (some 106) rfl rfl Tra.func7 (by kernel_rfl) rfl #[.slice Ao59 t255.length co59] rfl (by (try simp only [List.map_toArray,List.map_cons,List.map_nil]);rfl) ?_;(with_reducible refine (mobs_Number.calls _ _ t255 t258 t259 _ ?side1 ?side2 A48.out).mono ?_);(case side1=>repeat (exact (Kd.R_reads' HO257.out).2.2));(case side2=>exact (Kd.R_reads' HO257.out).2.1);rintro e w60 ⟨v260,rfl,ho0,hb⟩;refine ⟨_,rfl,?_⟩;have n0_:=As0.mk (Kd.R_elder' (by (with_reducible repeat (first|apply Kd.R_alloc|apply Kd.R_drewN|apply Kd.R_drew));exact HO_12.out) (Kd.R_base ho0) hb);have n1_:=As0.mk (Kd.R_elder' (by (with_reducible repeat (first|apply Kd.R_alloc|apply Kd.R_drewN|apply Kd.R_drew));exact HO_14.out) (Kd.R_base ho0) hb);have n2_:=As0.mk (Kd.R_elder' (by (with_reducible repeat (first|apply Kd.R_alloc|apply Kd.R_drewN|apply Kd.R_drew));exact HO_16.out) (Kd.R_base ho0) hb);have n3_:=As0.mk (Kd.R_elder' (by (with_reducible repeat (first|apply Kd.R_alloc|apply Kd.R_drewN|apply Kd.R_drew));exact HO250.out) (Kd.R_base ho0) hb);have n4_:=As0.mk (Kd.R_elder' (by (with_reducible repeat (first|apply Kd.R_alloc|apply Kd.R_drewN|apply Kd.R_drew));exact HO254.out) (Kd.R_base ho0) hb);have n5_:=As0.mk (Kd.R_elder' (by (with_reducible repeat (first|apply Kd.R_alloc|apply Kd.R_drewN|apply Kd.R_drew));exact HO257.out) (Kd.R_base ho0) hb);have n6_:=As0.mk (Kd.R_lower (Kd.R_new' (Kd.R_new' (Kd.R_new' (Kd.R_new' (Kd.R_new' (Kd.R_new' ho0 (Kd.R_lt (by (with_reducible repeat (first|apply Kd.R_alloc|apply Kd.R_drewN|apply Kd.R_drew));exact HO_12.out))) (Kd.R_lt (by (with_reducible repeat (first|apply Kd.R_alloc|apply Kd.R_drewN|apply Kd.R_drew));exact HO_14.out))) (Kd.R_lt (by (with_reducible repeat (first|apply Kd.R_alloc|apply Kd.R_drewN|apply Kd.R_drew));exact HO_16.out))) (Kd.R_lt (by (with_reducible repeat (first|apply Kd.R_alloc|apply Kd.R_drewN|apply Kd.R_drew));exact HO250.out))) (Kd.R_lt (by (with_reducible repeat (first|apply Kd.R_alloc|apply Kd.R_drewN|apply Kd.R_drew));exact HO254.out))) (Kd.R_lt (by (with_reducible repeat (first|apply Kd.R_alloc|apply Kd.R_drewN|apply Kd.R_drew));exact HO257.out))) (y05 (by repeat (with_reducible exact HB.out))));have n7_:=As0.mk (y04 (by repeat (with_reducible exact HB.out)) hb);clear HO_12;clear HO_14;clear HO_16;clear HO250;clear HO254;clear HO257;clear HB;have HO_12:=n0_;have HO_14:=n1_;have HO_16:=n2_;have HO250:=n3_;have HO254:=n4_;have HO257:=n5_;have HO261:=n6_;have HB:=n7_;clear n0_ n1_ n2_ n3_ n4_ n5_ n6_ n7_;(try clear hb);(try clear hb2);(try clear hk);(try clear hi);(try clear ho0);obtain ⟨Ao61,co61,eo61⟩:=Kd.R_slice HO_16.out;subst eo61)|((with_reducible refine y08 (f:=8) rfl ?_);refine y0n (some 112) rfl rfl Tra.func8 (by kernel_rfl) rfl #[.int .i64 a0,.slice Ao61 t244.length co61] rfl (by (try simp only [List.map_toArray,List.map_cons,List.map_nil]);rfl) ?_;(with_reducible refine (drovewaytop_parting.calls kj34 a0 _ _ t244 t262 _ ?side1 ?side2 A49.out).mono ?_);(case side1=>repeat (exact (Kd.R_reads' HO_16.out).2.2));(case side2=>exact (Kd.R_reads' HO_16.out).2.1);rintro e w62 ⟨v263,rfl,ho0,hb⟩;refine ⟨_,rfl,?_⟩;have n0_:=As0.mk (Kd.R_elder' (by (with_reducible repeat (first|apply Kd.R_alloc|apply Kd.R_drewN|apply Kd.R_drew));exact HO_12.out) (Kd.R_base ho0) hb);have n1_:=As0.mk (Kd.R_elder' (by (with_reducible repeat (first|apply Kd.R_alloc|apply Kd.R_drewN|apply Kd.R_drew));exact HO_14.out) (Kd.R_base ho0) hb);have n2_:=As0.mk (Kd.R_elder' (by (with_reducible repeat (first|apply Kd.R_alloc|apply Kd.R_drewN|apply Kd.R_drew));exact HO_16.out) (Kd.R_base ho0) hb);have n3_:=As0.mk (Kd.R_elder' (by (with_reducible repeat (first|apply Kd.R_alloc|apply Kd.R_drewN|apply Kd.R_drew));exact HO250.out) (Kd.R_base ho0) hb);have n4_:=As0.mk (Kd.R_elder' (by (with_reducible repeat (first|apply Kd.R_alloc|apply Kd.R_drewN|apply Kd.R_drew));exact HO254.out) (Kd.R_base ho0) hb);have n5_:=As0.mk (Kd.R_elder' (by (with_reducible repeat (first|apply Kd.R_alloc|apply Kd.R_drewN|apply Kd.R_drew));exact HO257.out) (Kd.R_base ho0) hb);have n6_:=As0.mk (Kd.R_elder' (by (with_reducible repeat (first|apply Kd.R_alloc|apply Kd.R_drewN|apply Kd.R_drew));exact HO261.out) (Kd.R_base ho0) hb);have n7_:=As0.mk (Kd.R_lower (Kd.R_new' (Kd.R_new' (Kd.R_new' (Kd.R_new' (Kd.R_new' (Kd.R_new' (Kd.R_new' ho0 (Kd.R_lt (by (with_reducible repeat (first|apply Kd.R_alloc|apply Kd.R_drewN|apply Kd.R_drew));exact HO_12.out))) (Kd.R_lt (by (with_reducible repeat (first|apply Kd.R_alloc|apply Kd.R_drewN|apply Kd.R_drew));exact HO_14.out))) (Kd.R_lt (by (with_reducible repeat (first|apply Kd.R_alloc|apply Kd.R_drewN|apply Kd.R_drew));exact HO_16.out))) (Kd.R_lt (by (with_reducible repeat (first|apply Kd.R_alloc|apply Kd.R_drewN|apply Kd.R_drew));exact HO250.out))) (Kd.R_lt (by (with_reducible repeat (first|apply Kd.R_alloc|apply Kd.R_drewN|apply Kd.R_drew));exact HO254.out))) (Kd.R_lt (by (with_reducible repeat (first|apply Kd.R_alloc|apply Kd.R_drewN|apply Kd.R_drew));exact HO257.out))) (Kd.R_lt (by (with_reducible repeat (first|apply Kd.R_alloc|apply Kd.R_drewN|apply Kd.R_drew));exact HO261.out))) (y05 (by repeat (with_reducible exact HB.out))));have n8_:=As0.mk (y04 (by repeat (with_reducible exact HB.out)) hb);clear HO_12;clear HO_14;clear HO_16;clear HO250;clear HO254;clear HO257;clear HO261;clear HB;have HO_12:=n0_;have HO_14:=n1_;have HO_16:=n2_;have HO250:=n3_;have HO254:=n4_;have HO257:=n5_;have HO261:=n6_;have HO264:=n7_;have HB:=n8_;clear n0_ n1_ n2_ n3_ n4_ n5_ n6_ n7_ n8_;(try clear hb);(try clear hb2);(try clear hk);(try clear hi);(try clear ho0);obtain ⟨Ao63,co63,eo63⟩:=Kd.R_slice HO264.out;subst eo63)|((with_reducible refine y08 (f:=7) rfl ?_);refine y0n (some 113) rfl rfl Tra.func7 (by kernel_rfl) rfl #[.slice Ao63 t262.length co63] rfl (by (try simp only [List.map_toArray,List.map_cons,List.map_nil]);rfl) ?_;(with_reducible refine (mobs_Number.calls _ _ t262 t265 t266 _ ?side1 ?side2 A50.out).mono ?_);(case side1=>repeat (exact (Kd.R_reads' HO264.out).2.2));(case side2=>exact (Kd.R_reads' HO264.out).2.1);rintro e w64 ⟨v267,rfl,ho0,hb⟩;refine ⟨_,rfl,?_⟩;have n0_:=As0.mk (Kd.R_elder' (by (with_reducible repeat (first|apply Kd.R_alloc|apply Kd.R_drewN|apply Kd.R_drew));exact HO_12.out) (Kd.R_base ho0) hb);have n1_:=As0.mk (Kd.R_elder' (by (with_reducible repeat (first|apply Kd.R_alloc|apply Kd.R_drewN|apply Kd.R_drew));exact HO_14.out) (Kd.R_base ho0) hb);have n2_:=As0.mk (Kd.R_elder' (by (with_reducible repeat (first|apply Kd.R_alloc|apply Kd.R_drewN|apply Kd.R_drew));exact HO_16.out) (Kd.R_base ho0) hb);have n3_:=As0.mk (Kd.R_elder' (by (with_reducible repeat (first|apply Kd.R_alloc|apply Kd.R_drewN|apply Kd.R_drew));exact HO250.out) (Kd.R_base ho0) hb);have n4_:=As0.mk (Kd.R_elder' (by (with_reducible repeat (first|apply Kd.R_alloc|apply Kd.R_drewN|apply Kd.R_drew));exact HO254.out) (Kd.R_base ho0) hb);have n5_:=As0.mk (Kd.R_elder' (by (with_reducible repeat (first|apply Kd.R_alloc|apply Kd.R_drewN|apply Kd.R_drew));exact HO257.out) (Kd.R_base ho0) hb);have n6_:=As0.mk (Kd.R_elder' (by (with_reducible repeat (first|apply Kd.R_alloc|apply Kd.R_drewN|apply Kd.R_drew));exact HO261.out) (Kd.R_base ho0) hb);have n7_:=As0.mk (Kd.R_elder' (by (with_reducible repeat (first|apply Kd.R_alloc|apply Kd.R_drewN|apply Kd.R_drew));exact HO264.out) (Kd.R_base ho0) hb);have n8_:=As0.mk (Kd.R_lower (Kd.R_new' (Kd.R_new' (Kd.R_new' (Kd.R_new' (Kd.R_new' (Kd.R_new' (Kd.R_new' (Kd.R_new' ho0 (Kd.R_lt (by (with_reducible repeat (first|apply Kd.R_alloc|apply Kd.R_drewN|apply Kd.R_drew));exact HO_12.out))) (Kd.R_lt (by (with_reducible repeat (first|apply Kd.R_alloc|apply Kd.R_drewN|apply Kd.R_drew));exact HO_14.out))) (Kd.R_lt (by (with_reducible repeat (first|apply Kd.R_alloc|apply Kd.R_drewN|apply Kd.R_drew));exact HO_16.out))) (Kd.R_lt (by (with_reducible repeat (first|apply Kd.R_alloc|apply Kd.R_drewN|apply Kd.R_drew));exact HO250.out))) (Kd.R_lt (by (with_reducible repeat (first|apply Kd.R_alloc|apply Kd.R_drewN|apply Kd.R_drew));exact HO254.out))) (Kd.R_lt (by (with_reducible repeat (first|apply Kd.R_alloc|apply Kd.R_drewN|apply Kd.R_drew));exact HO257.out))) (Kd.R_lt (by (with_reducible repeat (first|apply Kd.R_alloc|apply Kd.R_drewN|apply Kd.R_drew));exact HO261.out))) (Kd.R_lt (by (with_reducible repeat (first|apply Kd.R_alloc|apply Kd.R_drewN|apply Kd.R_drew));exact HO264.out))) (y05 (by repeat (with_reducible exact HB.out))));have n9_:=As0.mk (y04 (by repeat (with_reducible exact HB.out)) hb);clear HO_12;clear HO_14;clear HO_16;clear HO250;clear HO254;clear HO257;clear HO261;clear HO264;clear HB;have HO_12:=n0_;have HO_14:=n1_;have HO_16:=n2_;have HO250:=n3_;have HO254:=n4_;have HO257:=n5_;have HO261:=n6_;have HO264:=n7_;have HO268:=n8_;have HB:=n9_;clear n0_ n1_ n2_ n3_ n4_ n5_ n6_ n7_ n8_ n9_;(try clear hb);(try clear hb2);(try clear hk);(try clear hi);(try clear ho0);obtain ⟨Ao65,co65,eo65⟩:=Kd.R_slice HO261.out;subst eo65;obtain ⟨Ao66,co66,eo66⟩:=Kd.R_slice HO268.out;subst eo66)|((with_reducible refine y08 (f:=9) rfl ?_);refine y0n (some 119) rfl rfl Tra.func9 (by kernel_rfl) rfl #[.slice Ao65 t258.length co65,.slice Ao66 t265.length co66] rfl (by (try simp only [List.map_toArray,List.map_cons,List.map_nil]);rfl) ?_;(with_reducible refine (mobs_Meet.calls kj34 (fun k_=>some k_=(.slice Ao65 t258.length co65:Value).ownBlock) _ _ t258 (fun k_=>some k_=(.slice Ao66 t265.length co66:Value).ownBlock) _ _ t265 t269 t272 t275 _ ?side1 ?side2 A51.out).mono ?_);(case side1=>exact Kd.R_V (Kd.R_tight rfl (HO261.out)));(case side2=>exact Kd.R_V (Kd.R_tight rfl (HO268.out)));rintro e w67 ⟨v270,v273,rfl,ho0,ho1,hb⟩;refine ⟨_,rfl,?_⟩;have n0_:=As0.mk (Kd.R_mono (Kd.R_told (Kd.R_told (Kd.R_old (by (with_reducible repeat (first|apply Kd.R_alloc|apply Kd.R_drewN|apply Kd.R_drew));exact HO_12.out) hb) (Kd.R_base ho0)) (Kd.R_base ho1)) (fun _ h_=>h_.1));have n1_:=As0.mk (Kd.R_mono (Kd.R_told (Kd.R_told (Kd.R_old (by (with_reducible repeat (first|apply Kd.R_alloc|apply Kd.R_drewN|apply Kd.R_drew));exact HO_14.out) hb) (Kd.R_base ho0)) (Kd.R_base ho1)) (fun _ h_=>h_.1));have n2_:=As0.mk (Kd.R_mono (Kd.R_told (Kd.R_told (Kd.R_old (by (with_reducible repeat (first|apply Kd.R_alloc|apply Kd.R_drewN|apply Kd.R_drew));exact HO_16.out) hb) (Kd.R_base ho0)) (Kd.R_base ho1)) (fun _ h_=>h_.1));have n3_:=As0.mk (Kd.R_mono (Kd.R_told (Kd.R_told (Kd.R_old (by (with_reducible repeat (first|apply Kd.R_alloc|apply Kd.R_drewN|apply Kd.R_drew));exact HO250.out) hb) (Kd.R_base ho0)) (Kd.R_base ho1)) (fun _ h_=>h_.1));have n4_:=As0.mk (Kd.R_mono (Kd.R_told (Kd.R_told (Kd.R_old (by (with_reducible repeat (first|apply Kd.R_alloc|apply Kd.R_drewN|apply Kd.R_drew));exact HO254.out) hb) (Kd.R_base ho0)) (Kd.R_base ho1)) (fun _ h_=>h_.1));have n5_:=As0.mk (Kd.R_mono (Kd.R_told (Kd.R_told (Kd.R_old (by (with_reducible repeat (first|apply Kd.R_alloc|apply Kd.R_drewN|apply Kd.R_drew));exact HO257.out) hb) (Kd.R_base ho0)) (Kd.R_base ho1)) (fun _ h_=>h_.1));have n6_:=As0.mk (Kd.R_mono (Kd.R_told (Kd.R_told (Kd.R_old (by (with_reducible repeat (first|apply Kd.R_alloc|apply Kd.R_drewN|apply Kd.R_drew));exact HO261.out) hb) (Kd.R_base ho0)) (Kd.R_base ho1)) (fun _ h_=>h_.1));have n7_:=As0.mk (Kd.R_mono (Kd.R_told (Kd.R_told (Kd.R_old (by (with_reducible repeat (first|apply Kd.R_alloc|apply Kd.R_drewN|apply Kd.R_drew));exact HO264.out) hb) (Kd.R_base ho0)) (Kd.R_base ho1)) (fun _ h_=>h_.1));have n8_:=As0.mk (Kd.R_mono (Kd.R_told (Kd.R_told (Kd.R_old (by (with_reducible repeat (first|apply Kd.R_alloc|apply Kd.R_drewN|apply Kd.R_drew));exact HO268.out) hb) (Kd.R_base ho0)) (Kd.R_base ho1)) (fun _ h_=>h_.1));have n9_:=As0.mk (Kd.R_lower (Kd.R_new' (Kd.R_new' (Kd.R_new' (Kd.R_new' (Kd.R_new' (Kd.R_new' (Kd.R_new' (Kd.R_new' (Kd.R_new' (Kd.R_mono (ok':=fun k_=>some k_≠(v273:Value).ownBlock) ho0 (fun _ hk_=>hk_.2)) (Kd.R_lt (by (with_reducible repeat (first|apply Kd.R_alloc|apply Kd.R_drewN|apply Kd.R_drew));exact HO_12.out))) (Kd.R_lt (by (with_reducible repeat (first|apply Kd.R_alloc|apply Kd.R_drewN|apply Kd.R_drew));exact HO_14.out))) (Kd.R_lt (by (with_reducible repeat (first|apply Kd.R_alloc|apply Kd.R_drewN|apply Kd.R_drew));exact HO_16.out))) (Kd.R_lt (by (with_reducible repeat (first|apply Kd.R_alloc|apply Kd.R_drewN|apply Kd.R_drew));exact HO250.out))) (Kd.R_lt (by (with_reducible repeat (first|apply Kd.R_alloc|apply Kd.R_drewN|apply Kd.R_drew));exact HO254.out))) (Kd.R_lt (by (with_reducible repeat (first|apply Kd.R_alloc|apply Kd.R_drewN|apply Kd.R_drew));exact HO257.out))) (Kd.R_lt (by (with_reducible repeat (first|apply Kd.R_alloc|apply Kd.R_drewN|apply Kd.R_drew));exact HO261.out))) (Kd.R_lt (by (with_reducible repeat (first|apply Kd.R_alloc|apply Kd.R_drewN|apply Kd.R_drew));exact HO264.out))) (Kd.R_lt (by (with_reducible repeat (first|apply Kd.R_alloc|apply Kd.R_drewN|apply Kd.R_drew));exact HO268.out))) (y05 (by repeat (with_reducible exact HB.out))));have n10_:=As0.mk (Kd.R_lower (Kd.R_new' (Kd.R_new' (Kd.R_new' (Kd.R_new' (Kd.R_new' (Kd.R_new' (Kd.R_new' (Kd.R_new' (Kd.R_new' (Kd.R_mono (ok':=fun k_=>some k_≠(v270:Value).ownBlock) ho1 (fun _ hk_=>hk_.2)) (Kd.R_lt (by (with_reducible repeat (first|apply Kd.R_alloc|apply Kd.R_drewN|apply Kd.R_drew));exact HO_12.out))) (Kd.R_lt (by (with_reducible repeat (first|apply Kd.R_alloc|apply Kd.R_drewN|apply Kd.R_drew));exact HO_14.out))) (Kd.R_lt (by (with_reducible repeat (first|apply Kd.R_alloc|apply Kd.R_drewN|apply Kd.R_drew));exact HO_16.out))) (Kd.R_lt (by (with_reducible repeat (first|apply Kd.R_alloc|apply Kd.R_drewN|apply Kd.R_drew));exact HO250.out))) (Kd.R_lt (by (with_reducible repeat (first|apply Kd.R_alloc|apply Kd.R_drewN|apply Kd.R_drew));exact HO254.out))) (Kd.R_lt (by (with_reducible repeat (first|apply Kd.R_alloc|apply Kd.R_drewN|apply Kd.R_drew));exact HO257.out))) (Kd.R_lt (by (with_reducible repeat (first|apply Kd.R_alloc|apply Kd.R_drewN|apply Kd.R_drew));exact HO261.out))) (Kd.R_lt (by (with_reducible repeat (first|apply Kd.R_alloc|apply Kd.R_drewN|apply Kd.R_drew));exact HO264.out))) (Kd.R_lt (by (with_reducible repeat (first|apply Kd.R_alloc|apply Kd.R_drewN|apply Kd.R_drew));exact HO268.out))) (y05 (by repeat (with_reducible exact HB.out))));have n11_:=As0.mk (y04 (by repeat (with_reducible exact HB.out)) hb);clear HO_12;clear HO_14;clear HO_16;clear HO250;clear HO254;clear HO257;clear HO261;clear HO264;clear HO268;clear HB;have HO_12:=n0_;have HO_14:=n1_;have HO_16:=n2_;have HO250:=n3_;have HO254:=n4_;have HO257:=n5_;have HO261:=n6_;have HO264:=n7_;have HO268:=n8_;have HO271:=n9_;have HO274:=n10_;have HB:=n11_;clear n0_ n1_ n2_ n3_ n4_ n5_ n6_ n7_ n8_ n9_ n10_ n11_;(try clear hb);(try clear hb2);(try clear hk);(try clear hi);(try clear ho0);(try clear ho1)))
        (try simp only [Act.put,List.setIfInBounds_toArray,List.set_cons_zero,List.set_cons_succ])
        go_cut [148] (fun v148 wc=>∃ (kq:Nat) (x148_51:Bool),v148=.bool x148_51∧As0 (drovewaytop_TopJoined.j2 kq a0 t251 t272 x148_51=some r)∧As0 (kq≤kj34)∧As0 (Kd.R (Kd.int .i64) 3 wc w.heap.size (fun k_=>some k_≠(v273:Value).ownBlock) v253 t251)∧As0 (Kd.R (Kd.int .i64) 3 wc w.heap.size (fun k_=>some k_≠(v253:Value).ownBlock) v273 t272)∧As0 (Below w.heap.size w wc))
        case first =>
         have H:=HC52.out;clear HC52
         by_cases c68:t252=0
         ·rw [if_pos c68] at H
          have c68b0:(t252 == 0)=true:=beq_iff_eq.mpr c68;have c68b1:(t252 != 0)=false:=bne_eq_false_iff_eq.mpr c68;clear c68
          (skip)
          by_cases c69:t259=0
          ·rw [if_pos c69] at H
           have c69b0:(t259 == 0)=true:=beq_iff_eq.mpr c69;have c69b1:(t259 != 0)=false:=bne_eq_false_iff_eq.mpr c69;clear c69
           by_cases c70:t266=0
           ·rw [if_pos c70] at H
            have c70b0:(t266 == 0)=true:=beq_iff_eq.mpr c70;have c70b1:(t266 != 0)=false:=bne_eq_false_iff_eq.mpr c70;clear c70
            by_cases c71:t275=0
            ·rw [if_pos c71] at H
             have c71b0:(t275 == 0)=true:=beq_iff_eq.mpr c71;have c71b1:(t275 != 0)=false:=bne_eq_false_iff_eq.mpr c71;clear c71
             by_cases c72:(t251.length:Int)=a0
             ·rw [if_pos c72] at H
              have c72b0:((t251.length:Int) == a0)=true:=beq_iff_eq.mpr c72;have c72b1:((t251.length:Int) != a0)=false:=bne_eq_false_iff_eq.mpr c72;clear c72;have H':=As0.mk H;clear H;obtain ⟨Ao73,co73,eo73⟩:=Kd.R_slice HO254.out;subst eo73;obtain ⟨Ao74,co74,eo74⟩:=Kd.R_slice HO274.out;subst eo74;go_wp2
              go_meet
              case rel=>exact ⟨_,(((t272.length:Int) != a0)),(by rfl),H',⟨by have:=HK1.out;have:=HJ34.out;omega⟩,⟨by (with_reducible repeat (first|apply Kd.R_alloc|apply Kd.R_drewN|apply Kd.R_drew));exact Kd.R_mono HO254.out (fun _ hk=>hk.2)⟩,⟨by (with_reducible repeat (first|apply Kd.R_alloc|apply Kd.R_drewN|apply Kd.R_drew));exact Kd.R_mono HO274.out (fun _ hk=>hk.1.1.1.1.2)⟩,⟨by repeat (with_reducible exact HB.out)⟩⟩
             ·rw [if_neg c72] at H
              have c72b0:((t251.length:Int) == a0)=false:=beq_eq_false_iff_ne.mpr c72;have c72b1:((t251.length:Int) != a0)=true:=bne_iff_ne.mpr c72;have H':=As0.mk H;clear H;obtain ⟨Ao75,co75,eo75⟩:=Kd.R_slice HO254.out;subst eo75;go_wp2
              go_meet
              case rel=>exact ⟨_,(true),(by rfl),H',⟨by have:=HK1.out;have:=HJ34.out;omega⟩,⟨by (with_reducible repeat (first|apply Kd.R_alloc|apply Kd.R_drewN|apply Kd.R_drew));exact Kd.R_mono HO254.out (fun _ hk=>hk.2)⟩,⟨by (with_reducible repeat (first|apply Kd.R_alloc|apply Kd.R_drewN|apply Kd.R_drew));exact Kd.R_mono HO274.out (fun _ hk=>hk.1.1.1.1.2)⟩,⟨by repeat (with_reducible exact HB.out)⟩⟩
            ·rw [if_neg c71] at H
             have c71b0:(t275 == 0)=false:=beq_eq_false_iff_ne.mpr c71;have c71b1:(t275 != 0)=true:=bne_iff_ne.mpr c71;have H':=As0.mk H;clear H;go_wp2
             go_meet
             case rel=>exact ⟨_,(true),(by rfl),H',⟨by have:=HK1.out;have:=HJ34.out;omega⟩,⟨by (with_reducible repeat (first|apply Kd.R_alloc|apply Kd.R_drewN|apply Kd.R_drew));exact Kd.R_mono HO254.out (fun _ hk=>hk.2)⟩,⟨by (with_reducible repeat (first|apply Kd.R_alloc|apply Kd.R_drewN|apply Kd.R_drew));exact Kd.R_mono HO274.out (fun _ hk=>hk.1.1.1.1.2)⟩,⟨by repeat (with_reducible exact HB.out)⟩⟩
           ·rw [if_neg c70] at H
            have c70b0:(t266 == 0)=false:=beq_eq_false_iff_ne.mpr c70;have c70b1:(t266 != 0)=true:=bne_iff_ne.mpr c70;have H':=As0.mk H;clear H;go_wp2
            go_meet
            case rel=>exact ⟨_,(true),(by rfl),H',⟨by have:=HK1.out;have:=HJ34.out;omega⟩,⟨by (with_reducible repeat (first|apply Kd.R_alloc|apply Kd.R_drewN|apply Kd.R_drew));exact Kd.R_mono HO254.out (fun _ hk=>hk.2)⟩,⟨by (with_reducible repeat (first|apply Kd.R_alloc|apply Kd.R_drewN|apply Kd.R_drew));exact Kd.R_mono HO274.out (fun _ hk=>hk.1.1.1.1.2)⟩,⟨by repeat (with_reducible exact HB.out)⟩⟩
          ·rw [if_neg c69] at H
           have c69b0:(t259 == 0)=false:=beq_eq_false_iff_ne.mpr c69;have c69b1:(t259 != 0)=true:=bne_iff_ne.mpr c69;have H':=As0.mk H;clear H;go_wp2
           go_meet
           case rel=>exact ⟨_,(true),(by rfl),H',⟨by have:=HK1.out;have:=HJ34.out;omega⟩,⟨by (with_reducible repeat (first|apply Kd.R_alloc|apply Kd.R_drewN|apply Kd.R_drew));exact Kd.R_mono HO254.out (fun _ hk=>hk.2)⟩,⟨by (with_reducible repeat (first|apply Kd.R_alloc|apply Kd.R_drewN|apply Kd.R_drew));exact Kd.R_mono HO274.out (fun _ hk=>hk.1.1.1.1.2)⟩,⟨by repeat (with_reducible exact HB.out)⟩⟩
         ·rw [if_neg c68] at H
          have c68b0:(t252 == 0)=false:=beq_eq_false_iff_ne.mpr c68;have c68b1:(t252 != 0)=true:=bne_iff_ne.mpr c68
          (skip)
          have H':=As0.mk H;clear H;go_wp2
          go_meet
          case rel=>exact ⟨_,(true),(by rfl),H',⟨by have:=HK1.out;have:=HJ34.out;omega⟩,⟨by (with_reducible repeat (first|apply Kd.R_alloc|apply Kd.R_drewN|apply Kd.R_drew));exact Kd.R_mono HO254.out (fun _ hk=>hk.2)⟩,⟨by (with_reducible repeat (first|apply Kd.R_alloc|apply Kd.R_drewN|apply Kd.R_drew));exact Kd.R_mono HO274.out (fun _ hk=>hk.1.1.1.1.2)⟩,⟨by repeat (with_reducible exact HB.out)⟩⟩
        case rest =>
         clear HC52
         try clear c1
         try clear c2
         try clear p2
         try clear q2
         try clear hx2
         try clear c3
         try clear c4
         try clear c5
         try clear c5b0
         try clear c5b1
         try clear c6
         try clear c6b0
         try clear p6
         try clear c7
         try clear c7b0
         try clear c8
         try clear c9
         try clear c9b0
         try clear c11
         try clear c11b0
         try clear c11b1
         try clear c12
         try clear c22
         try clear p22
         try clear q22
         try clear hx22
         try clear c42
         try clear c42b0
         try clear c42b1
         try clear c43
         try clear c43b0
         try clear c43b1
         try clear c44
         try clear p64
         try clear c68
         try clear c68b0
         try clear c68b1
         try clear c69
         try clear c69b0
         try clear c69b1
         try clear c70
         try clear c70b0
         try clear c70b1
         try clear c71
         try clear c71b0
         try clear c71b1
         try clear c72
         try clear c72b0
         try clear c72b1
         try clear hcz18_0
         try clear hcz18_1
         try clear hcz18_2
         try clear hcz20_0
         try clear hcz20_1
         try clear hcz20_2
         try clear hcz28_0
         try clear hcz28_1
         try clear hcz28_2
         try clear hcz30_0
         try clear hcz30_1
         try clear hcz30_2
         try clear hfz18_0
         try clear hfz18_1
         try clear hfz18_2
         try clear hfz20_0
         try clear hfz20_1
         try clear hfz20_2
         try clear hfz28_0
         try clear hfz28_1
         try clear hfz28_2
         try clear hfz30_0
         try clear hfz30_1
         try clear hfz30_2
         try clear hx224_0
         try clear hx224_1
         try clear hx224_2
         try clear hx225_0
         try clear hx225_1
         try clear hx225_2
         try clear p2
         try clear p22
         try clear p224
         try clear p225
         try clear p6
         try clear q2
         try clear q22
         try clear q224
         try clear q225
         obtain ⟨kq,x148_51,rfl,HA,HJ51,HO_18,HO_25,HB⟩:=hcut;cases kq with
         |zero=>exact absurd HA.out (by simp [drovewaytop_TopJoined.j2])
         |succ kj51 =>
          have H:=HA.out;clear HA;simp only [drovewaytop_TopJoined.j2] at H
          by_cases c76:x148_51=true
          ·subst c76
           have H1:(some false)=some r:=by rw [if_pos rfl] at H;exact H
           clear H;have H:=H1;clear H1;obtain rfl:=zSi H;go_wp2
           go_ret
           exact ⟨by rfl,by repeat (with_reducible exact HB.out)⟩
          ·replace c76:=Bool.eq_false_iff.mpr c76
           subst c76;have H1:(drovewaytop_TopJoined.l1 kj51 a0 t251 t272 0)=some r:=by rw [if_neg (show ¬ (false=true) by decide)] at H;exact H
           clear H;have H:=H1;clear H1;have H':=As0.mk H;clear H;go_wp2
           go_loopg [27] kj51 (fun kq v27 w'=>∃ (x27_4:Int),v27=.int .i64 x27_4∧As0 (drovewaytop_TopJoined.l1 kq a0 t251 t272 x27_4=some r)∧As0 (kq≤kj51)∧As0 (Kd.R (Kd.int .i64) 3 w' w.heap.size (fun k_=>some k_≠(v273:Value).ownBlock) v253 t251)∧As0 (Kd.R (Kd.int .i64) 3 w' w.heap.size (fun k_=>some k_≠(v253:Value).ownBlock) v273 t272)∧As0 (Below w.heap.size w w'))
           case atStart=>exact ⟨(0),(by rfl),H',⟨zLe _⟩,⟨by (with_reducible repeat (first|apply Kd.R_alloc|apply Kd.R_drewN|apply Kd.R_drew));exact HO_18.out⟩,⟨by (with_reducible repeat (first|apply Kd.R_alloc|apply Kd.R_drewN|apply Kd.R_drew));exact HO_25.out⟩,⟨by repeat (with_reducible exact HB.out)⟩⟩
           case round =>
            clear H'
            try clear c1
            try clear c2
            try clear p2
            try clear q2
            try clear hx2
            try clear c3
            try clear c4
            try clear c5
            try clear c5b0
            try clear c5b1
            try clear c6
            try clear c6b0
            try clear p6
            try clear c7
            try clear c7b0
            try clear c8
            try clear c9
            try clear c9b0
            try clear c11
            try clear c11b0
            try clear c11b1
            try clear c12
            try clear c22
            try clear p22
            try clear q22
            try clear hx22
            try clear c42
            try clear c42b0
            try clear c42b1
            try clear c43
            try clear c43b0
            try clear c43b1
            try clear c44
            try clear p64
            try clear c68
            try clear c68b0
            try clear c68b1
            try clear c69
            try clear c69b0
            try clear c69b1
            try clear c70
            try clear c70b0
            try clear c70b1
            try clear c71
            try clear c71b0
            try clear c71b1
            try clear c72
            try clear c72b0
            try clear c72b1
            try clear c76
            try clear hcz18_0
            try clear hcz18_1
            try clear hcz18_2
            try clear hcz20_0
            try clear hcz20_1
            try clear hcz20_2
            try clear hcz28_0
            try clear hcz28_1
            try clear hcz28_2
            try clear hcz30_0
            try clear hcz30_1
            try clear hcz30_2
            try clear hfz18_0
            try clear hfz18_1
            try clear hfz18_2
            try clear hfz20_0
            try clear hfz20_1
            try clear hfz20_2
            try clear hfz28_0
            try clear hfz28_1
            try clear hfz28_2
            try clear hfz30_0
            try clear hfz30_1
            try clear hfz30_2
            try clear hx224_0
            try clear hx224_1
            try clear hx224_2
            try clear hx225_0
            try clear hx225_1
            try clear hx225_2
            try clear p2
            try clear p22
            try clear p224
            try clear p225
            try clear p6
            try clear p64
            try clear q2
            try clear q22
            try clear q224
            try clear q225
            obtain ⟨x27_4,rfl,HA,HK4,HO_18,HO_25,HB⟩:=hrel;cases gk with
            |zero=>exact absurd HA.out (by simp [drovewaytop_TopJoined.l1])
            |succ k4 =>
             have H:=HA.out;clear HA;simp only [drovewaytop_TopJoined.l1] at H
             by_cases c77:x27_4<a0
             ·rw [if_pos c77] at H
              have c77b0:decide (x27_4<a0)=true:=zDt c77;clear c77
              by_cases c78:0≤x27_4
              ·rw [if_pos c78] at H
               have c78b0:decide (0≤x27_4)=true:=zDt c78;clear c78
               by_cases c79:x27_4<(t251.length:Int)
               ·rw [if_pos c79] at H
                have c79b0:decide (x27_4<(t251.length:Int))=true:=zDt c79;clear c79
                by_cases c80:x27_4<(t272.length:Int)
                ·rw [if_pos c80] at H
                 have c80b0:decide (x27_4<(t272.length:Int))=true:=zDt c80;clear c80
                 by_cases c81:(rd t251 x27_4)=(rd t272 x27_4)
                 ·rw [if_pos c81] at H
                  have c81b0:((rd t251 x27_4) == (rd t272 x27_4))=true:=beq_iff_eq.mpr c81;have c81b1:((rd t251 x27_4) != (rd t272 x27_4))=false:=bne_eq_false_iff_eq.mpr c81;clear c81;have H':=As0.mk H;clear H
                  try go_wp2
                  have n0_:=As0.mk (Kd.R_drew HO_18.out);have n1_:=As0.mk (Kd.R_drew HO_25.out);have n2_:=As0.mk (y02 HB.out);clear HO_18;clear HO_25;clear HB;have HO_18:=n0_;have HO_25:=n1_;have HB:=n2_;clear n0_ n1_ n2_;obtain ⟨Ao83,co83,eo83⟩:=Kd.R_slice HO_18.out
                  (subst eo83)
                  have p276:0≤(x27_4:Int):=zDo (by with_reducible assumption);have q276:x27_4<(t251.length:Int):=zDo (by with_reducible assumption);obtain ⟨ad276,e276,hx276_0⟩:=Kd.at_int (Kd.R_reads' HO_18.out).2.2 x27_4 p276 q276;cases e276
                  replace p276:=eq_true p276;replace q276:=eq_true q276;obtain ⟨Ao84,co84,eo84⟩:=Kd.R_slice HO_25.out
                  (subst eo84)
                  have p277:0≤(x27_4:Int):=zDo (by with_reducible assumption);have q277:x27_4<(t272.length:Int):=zDo (by with_reducible assumption);obtain ⟨ad277,e277,hx277_0⟩:=Kd.at_int (Kd.R_reads' HO_25.out).2.2 x27_4 p277 q277;cases e277
                  replace p277:=eq_true p277;replace q277:=eq_true q277;refine y2d (n:=9) (S:=fun w'=>w'.cell? (ad276.add (x27_4).toNat)=some (.int .i64 (rd t251 x27_4))∧w'.cell? (ad277.add (x27_4).toNat)=some (.int .i64 (rd t272 x27_4))) (ds:=[]) #[false,false,false,false,false,false,false,false,false] (by kernel_rfl) rfl rfl ⟨hx276_0,hx277_0⟩ (fun hHeld=>?_);refine y25 drovewaytop_TopJoined.tab26 drovewaytop_TopJoined.bits26 (fun HT_ HW_=>?_);generalize wr.drew=w82 at HO_18 HO_25 HB hx276_0 hx277_0 hHeld ⊢;refine y0e (i:=0) (N:=some 154) (v:=?_) (a':=?_) #[true,false,false,false,false,false,false,false,false] rfl rfl (y0i HT_.out (by kernel_rfl)) (fun _ _ _ h=>h) (Or.inl ⟨by rfl,?_⟩) ?_ ?_;rotate_left
                  ·intro w'
                   go_simp
                   with_reducible rfl
                  rotate_left
                  ·simp only [Act.put,List.setIfInBounds_toArray,List.set_cons_zero,List.set_cons_succ,y0a,y0b]
                   rfl
                  refine y0e (i:=1) (N:=some 155) (v:=?_) (a':=?_) #[true,true,false,false,false,false,false,false,false] rfl rfl (y0i HT_.out (by kernel_rfl)) (fun _ _ _ h=>h) (Or.inl ⟨by rfl,?_⟩) ?_ ?_;rotate_left
                  ·intro w'
                   go_simp
                   with_reducible rfl
                  rotate_left
                  ·simp only [Act.put,List.setIfInBounds_toArray,List.set_cons_zero,List.set_cons_succ,y0a,y0b]
                   rfl
                  refine y0e (i:=2) (N:=some 156) (v:=?_) (a':=?_) #[true,true,true,false,false,false,false,false,false] rfl rfl (y0i HT_.out (by kernel_rfl)) (fun _ _ _ h=>h) (Or.inl ⟨by rfl,?_⟩) ?_ ?_;rotate_left
                  ·intro w'
                   go_simp
                   with_reducible rfl
                  rotate_left
                  ·simp only [Act.put,List.setIfInBounds_toArray,List.set_cons_zero,List.set_cons_succ,y0a,y0b]
                   rfl
                  refine y0e (i:=4) (N:=some 158) (v:=?_) (a':=?_) #[true,true,true,false,true,false,false,false,false] rfl rfl (y0i HT_.out (by kernel_rfl)) (fun _ _ _ h=>h) (Or.inl ⟨by rfl,?_⟩) ?_ ?_;rotate_left
                  ·intro w'
                   go_simp
                   with_reducible rfl
                  rotate_left
                  ·simp only [Act.put,List.setIfInBounds_toArray,List.set_cons_zero,List.set_cons_succ,y0a,y0b]
                   rfl
                  refine y0e (i:=5) (N:=some 159) (v:=?_) (a':=?_) #[true,true,true,false,true,true,false,false,false] rfl rfl (y0i HT_.out (by kernel_rfl)) (fun _ _ _ h=>h) (Or.inl ⟨by rfl,?_⟩) ?_ ?_;rotate_left
                  ·intro w'
                   go_simp
                   with_reducible rfl
                  rotate_left
                  ·simp only [Act.put,List.setIfInBounds_toArray,List.set_cons_zero,List.set_cons_succ,y0a,y0b]
                   rfl
                  refine y0e (i:=6) (N:=some 160) (v:=?_) (a':=?_) #[true,true,true,false,true,true,true,false,false] rfl rfl (y0i HT_.out (by kernel_rfl)) (fun _ _ _ h=>h) (Or.inl ⟨by rfl,?_⟩) ?_ ?_;rotate_left
                  ·intro w'
                   go_simp
                   with_reducible rfl
                  rotate_left
                  ·simp only [Act.put,List.setIfInBounds_toArray,List.set_cons_zero,List.set_cons_succ,y0a,y0b]
                   rfl
                  refine y1l (i:=3) (N:=some 157) (v:=?_) (a':=?_) #[true,true,true,true,true,true,true,false,false] rfl rfl (y1k HT_.out HW_.out (by kernel_rfl)) (fun _ _ _ h=>h) (Or.inl ⟨by rfl,?_⟩) hHeld ?_ ?_;rotate_left
                  ·rintro w' ⟨s0,s1⟩
                   go_simp
                   with_reducible rfl
                  rotate_left
                  ·simp only [Act.put,List.setIfInBounds_toArray,List.set_cons_zero,List.set_cons_succ,y0a,y0b]
                   rfl
                  refine y1l (i:=7) (N:=some 161) (v:=?_) (a':=?_) #[true,true,true,true,true,true,true,true,false] rfl rfl (y1k HT_.out HW_.out (by kernel_rfl)) (fun _ _ _ h=>h) (Or.inl ⟨by rfl,?_⟩) hHeld ?_ ?_;rotate_left
                  ·rintro w' ⟨s0,s1⟩
                   go_simp
                   with_reducible rfl
                  rotate_left
                  ·simp only [Act.put,List.setIfInBounds_toArray,List.set_cons_zero,List.set_cons_succ,y0a,y0b]
                   rfl
                  refine y0e (i:=8) (N:=some 162) (v:=?_) (a':=?_) #[true,true,true,true,true,true,true,true,true] rfl rfl (y0i HT_.out (by kernel_rfl)) (fun _ _ _ h=>h) (Or.inl ⟨by rfl,?_⟩) ?_ ?_;rotate_left
                  ·intro w'
                   go_simp
                   with_reducible rfl
                  rotate_left
                  ·simp only [Act.put,List.setIfInBounds_toArray,List.set_cons_zero,List.set_cons_succ,y0a,y0b]
                   rfl
                  refine y3x (y3p HT_.out (by kernel_rfl)) ?_
                  try go_wp2
                  go_roundg k4
                  case measure=>have:=HK1.out;have:=HJ34.out;have:=HJ51.out;have:=HK4.out;omega
                  case rel=>exact ⟨(wrap64 (x27_4+1)),(by rfl),H',⟨by have:=HK1.out;have:=HJ34.out;have:=HJ51.out;have:=HK4.out;omega⟩,⟨by (with_reducible repeat (first|apply Kd.R_alloc|apply Kd.R_drewN|apply Kd.R_drew));exact HO_18.out⟩,⟨by (with_reducible repeat (first|apply Kd.R_alloc|apply Kd.R_drewN|apply Kd.R_drew));exact HO_25.out⟩,⟨by repeat (with_reducible exact HB.out)⟩⟩
                 ·rw [if_neg c81] at H
                  have c81b0:((rd t251 x27_4) == (rd t272 x27_4))=false:=beq_eq_false_iff_ne.mpr c81;have c81b1:((rd t251 x27_4) != (rd t272 x27_4))=true:=bne_iff_ne.mpr c81;obtain rfl:=zSi H
                  try go_wp2
                  have n0_:=As0.mk (Kd.R_drew HO_18.out);have n1_:=As0.mk (Kd.R_drew HO_25.out);have n2_:=As0.mk (y02 HB.out);clear HO_18;clear HO_25;clear HB;have HO_18:=n0_;have HO_25:=n1_;have HB:=n2_;clear n0_ n1_ n2_;obtain ⟨Ao86,co86,eo86⟩:=Kd.R_slice HO_18.out
                  (subst eo86)
                  have p276:0≤(x27_4:Int):=zDo (by with_reducible assumption);have q276:x27_4<(t251.length:Int):=zDo (by with_reducible assumption);obtain ⟨ad276,e276,hx276_0⟩:=Kd.at_int (Kd.R_reads' HO_18.out).2.2 x27_4 p276 q276;cases e276
                  replace p276:=eq_true p276;replace q276:=eq_true q276;obtain ⟨Ao87,co87,eo87⟩:=Kd.R_slice HO_25.out
                  (subst eo87)
                  have p277:0≤(x27_4:Int):=zDo (by with_reducible assumption);have q277:x27_4<(t272.length:Int):=zDo (by with_reducible assumption);obtain ⟨ad277,e277,hx277_0⟩:=Kd.at_int (Kd.R_reads' HO_25.out).2.2 x27_4 p277 q277;cases e277
                  replace p277:=eq_true p277;replace q277:=eq_true q277;refine y2d (n:=9) (S:=fun w'=>w'.cell? (ad276.add (x27_4).toNat)=some (.int .i64 (rd t251 x27_4))∧w'.cell? (ad277.add (x27_4).toNat)=some (.int .i64 (rd t272 x27_4))) (ds:=[]) #[false,false,false,false,false,false,false,false,false] (by kernel_rfl) rfl rfl ⟨hx276_0,hx277_0⟩ (fun hHeld=>?_);refine y25 drovewaytop_TopJoined.tab26 drovewaytop_TopJoined.bits26 (fun HT_ HW_=>?_);generalize wr.drew=w85 at HO_18 HO_25 HB hx276_0 hx277_0 hHeld ⊢;refine y0e (i:=0) (N:=some 154) (v:=?_) (a':=?_) #[true,false,false,false,false,false,false,false,false] rfl rfl (y0i HT_.out (by kernel_rfl)) (fun _ _ _ h=>h) (Or.inl ⟨by rfl,?_⟩) ?_ ?_;rotate_left
                  ·intro w'
                   go_simp
                   with_reducible rfl
                  rotate_left
                  ·simp only [Act.put,List.setIfInBounds_toArray,List.set_cons_zero,List.set_cons_succ,y0a,y0b]
                   rfl
                  refine y0e (i:=1) (N:=some 155) (v:=?_) (a':=?_) #[true,true,false,false,false,false,false,false,false] rfl rfl (y0i HT_.out (by kernel_rfl)) (fun _ _ _ h=>h) (Or.inl ⟨by rfl,?_⟩) ?_ ?_;rotate_left
                  ·intro w'
                   go_simp
                   with_reducible rfl
                  rotate_left
                  ·simp only [Act.put,List.setIfInBounds_toArray,List.set_cons_zero,List.set_cons_succ,y0a,y0b]
                   rfl
                  refine y0e (i:=2) (N:=some 156) (v:=?_) (a':=?_) #[true,true,true,false,false,false,false,false,false] rfl rfl (y0i HT_.out (by kernel_rfl)) (fun _ _ _ h=>h) (Or.inl ⟨by rfl,?_⟩) ?_ ?_;rotate_left
                  ·intro w'
                   go_simp
                   with_reducible rfl
                  rotate_left
                  ·simp only [Act.put,List.setIfInBounds_toArray,List.set_cons_zero,List.set_cons_succ,y0a,y0b]
                   rfl
                  refine y0e (i:=4) (N:=some 158) (v:=?_) (a':=?_) #[true,true,true,false,true,false,false,false,false] rfl rfl (y0i HT_.out (by kernel_rfl)) (fun _ _ _ h=>h) (Or.inl ⟨by rfl,?_⟩) ?_ ?_;rotate_left
                  ·intro w'
                   go_simp
                   with_reducible rfl
                  rotate_left
                  ·simp only [Act.put,List.setIfInBounds_toArray,List.set_cons_zero,List.set_cons_succ,y0a,y0b]
                   rfl
                  refine y0e (i:=5) (N:=some 159) (v:=?_) (a':=?_) #[true,true,true,false,true,true,false,false,false] rfl rfl (y0i HT_.out (by kernel_rfl)) (fun _ _ _ h=>h) (Or.inl ⟨by rfl,?_⟩) ?_ ?_;rotate_left
                  ·intro w'
                   go_simp
                   with_reducible rfl
                  rotate_left
                  ·simp only [Act.put,List.setIfInBounds_toArray,List.set_cons_zero,List.set_cons_succ,y0a,y0b]
                   rfl
                  refine y0e (i:=6) (N:=some 160) (v:=?_) (a':=?_) #[true,true,true,false,true,true,true,false,false] rfl rfl (y0i HT_.out (by kernel_rfl)) (fun _ _ _ h=>h) (Or.inl ⟨by rfl,?_⟩) ?_ ?_;rotate_left
                  ·intro w'
                   go_simp
                   with_reducible rfl
                  rotate_left
                  ·simp only [Act.put,List.setIfInBounds_toArray,List.set_cons_zero,List.set_cons_succ,y0a,y0b]
                   rfl
                  refine y1l (i:=3) (N:=some 157) (v:=?_) (a':=?_) #[true,true,true,true,true,true,true,false,false] rfl rfl (y1k HT_.out HW_.out (by kernel_rfl)) (fun _ _ _ h=>h) (Or.inl ⟨by rfl,?_⟩) hHeld ?_ ?_;rotate_left
                  ·rintro w' ⟨s0,s1⟩
                   go_simp
                   with_reducible rfl
                  rotate_left
                  ·simp only [Act.put,List.setIfInBounds_toArray,List.set_cons_zero,List.set_cons_succ,y0a,y0b]
                   rfl
                  refine y1l (i:=7) (N:=some 161) (v:=?_) (a':=?_) #[true,true,true,true,true,true,true,true,false] rfl rfl (y1k HT_.out HW_.out (by kernel_rfl)) (fun _ _ _ h=>h) (Or.inl ⟨by rfl,?_⟩) hHeld ?_ ?_;rotate_left
                  ·rintro w' ⟨s0,s1⟩
                   go_simp
                   with_reducible rfl
                  rotate_left
                  ·simp only [Act.put,List.setIfInBounds_toArray,List.set_cons_zero,List.set_cons_succ,y0a,y0b]
                   rfl
                  refine y0e (i:=8) (N:=some 162) (v:=?_) (a':=?_) #[true,true,true,true,true,true,true,true,true] rfl rfl (y0i HT_.out (by kernel_rfl)) (fun _ _ _ h=>h) (Or.inl ⟨by rfl,?_⟩) ?_ ?_;rotate_left
                  ·intro w'
                   go_simp
                   with_reducible rfl
                  rotate_left
                  ·simp only [Act.put,List.setIfInBounds_toArray,List.set_cons_zero,List.set_cons_succ,y0a,y0b]
                   rfl
                  refine y3x (y3p HT_.out (by kernel_rfl)) ?_
                  try go_wp2
                  go_ret
                  exact ⟨by rfl,by repeat (with_reducible exact HB.out)⟩
                ·rw [if_neg c80] at H
                 exact absurd H (by simp)
               ·rw [if_neg c79] at H
                exact absurd H (by simp)
              ·rw [if_neg c78] at H
               exact absurd H (by simp)
             ·rw [if_neg c77] at H
              have c77b0:decide (x27_4<a0)=false:=zDf c77;clear c77;replace H:=Option.bind_eq_some_iff.mp H;obtain ⟨t278,A880,H⟩:=H;replace H:(some t278)=some r:=H;have A88:=As0.mk A880;clear A880;obtain rfl:=zSi H;go_wp2_with (((with_reducible refine y08 (f:=5) rfl ?_);refine y0n (some 163) rfl rfl Tra.func5 (by kernel_rfl) rfl #[] rfl (by (try simp only [List.map_toArray,List.map_cons,List.map_nil]);done) ?_;(with_reducible refine (drovewaytop_parted.calls k4  t278 _ A88.out).mono ?_);rintro e w89 ⟨rfl,hb⟩;refine ⟨_,rfl,?_⟩;have n0_:=As0.mk (Kd.R_below (by (with_reducible repeat (first|apply Kd.R_alloc|apply Kd.R_drewN|apply Kd.R_drew));exact HO_18.out) hb);have n1_:=As0.mk (Kd.R_below (by (with_reducible repeat (first|apply Kd.R_alloc|apply Kd.R_drewN|apply Kd.R_drew));exact HO_25.out) hb);have n2_:=As0.mk (y04 (by repeat (with_reducible exact HB.out)) hb);clear HO_18;clear HO_25;clear HB;have HO_18:=n0_;have HO_25:=n1_;have HB:=n2_;clear n0_ n1_ n2_;(try clear hb);(try clear hb2);(try clear hk);(try clear hi)))
              go_ret
              exact ⟨by rfl,by repeat (with_reducible exact HB.out)⟩
 ·rw [if_neg c5] at H
  have c5b0:(t222 == 0)=false:=beq_eq_false_iff_ne.mpr c5;have c5b1:(t222 != 0)=true:=bne_iff_ne.mpr c5;replace H:=Option.bind_eq_some_iff.mp H;obtain ⟨t223,A900,H⟩:=H;replace H:(some t223)=some r:=H;have A90:=As0.mk A900;clear A900;obtain rfl:=zSi H;go_enter Tra.func3,Tra.ntmps3
  go_wp2_with (first|((with_reducible refine y08 (f:=4) rfl ?_);refine y0n (some 30) rfl rfl Tra.func4 (by kernel_rfl) rfl #[.int .i64 a0,.slice A1 l1.length c1] rfl (by (try simp only [List.map_toArray,List.map_cons,List.map_nil]);rfl) ?_;(with_reducible refine (drovewayref09_Ties.calls k a0 _ _ l1 t222 _ ?side1 ?side2 A4.out).mono ?_);(case side1=>repeat (exact HR1.out));(case side2=>exact HC1.out);rintro e w' ⟨rfl,⟨nd,rfl⟩⟩;refine ⟨_,rfl,?_⟩)|((with_reducible refine y08 (f:=5) rfl ?_);refine y0n (some 32) rfl rfl Tra.func5 (by kernel_rfl) rfl #[] rfl (by (try simp only [List.map_toArray,List.map_cons,List.map_nil]);done) ?_;(with_reducible refine (drovewaytop_parted.calls k  t223 _ A90.out).mono ?_);rintro e w91 ⟨rfl,hb⟩;refine ⟨_,rfl,?_⟩;have n0_:=As0.mk (y04 (by repeat (with_reducible first|exact HB.out|apply y00)) hb);clear HB;have HB:=n0_;clear n0_;(try clear hb);(try clear hb2);(try clear hk);(try clear hi)))
  go_ret
  exact ⟨by rfl,by repeat (with_reducible exact HB.out)⟩
end Go.Proofs.Ytfgcijifdbgpaaa.P
namespace Go.Proofs.Ytfgcijifdbgpaaa.Pl
open Go.RowKit Go.Proofs.Ytfgcijifdbgpaaa.P Go.Proofs.YtfgcijifdbgpaaaW.Wd Go.Proofs.YtfgcijifdbgpaaaW.La
def rgs:Int->List Int->Bool
 |_,[]=>true
 |m,x :: l=>decide (0≤x) && (decide (x≤m) && rgs (if x=m then m+1 else m) l)
def isP (l:List Int):Bool:=decide (l.length≤12) && rgs 0 l
theorem w64 {x:Int} (h0:-1000000000≤x) (h1:x≤1000000000):wrap64 x=x:=by unfold wrap64;omega
theorem rd_at {l:List Int} {i:Nat} (h:i<l.length):rd l (i:Int)=l[i]:=by simp [rd,List.getD_eq_getElem?_getD,List.getElem?_eq_getElem h]
theorem ygj (l:List Int) (hn:l.length≤12):∀ (j i k:Nat) (m:Int),i+j=l.length->j+1≤k->0≤m->m≤i->mobs_IsParting.l0 k m l (l.length:Int) (i:Int)=some (rgs m (l.drop i))
 |0,i,k+1,m,hi,hk,h0,h1=>by
  unfold mobs_IsParting.l0;rw [if_neg (by omega),List.drop_of_length_le (by omega)];rfl
 |j+1,i,k+1,m,hi,hk,h0,h1=>by
  have hlt:i<l.length:=by omega
  unfold mobs_IsParting.l0;rw [if_pos (by omega),if_pos (by omega),if_pos (by omega),rd_at hlt,List.drop_eq_getElem_cons hlt];unfold rgs
  by_cases hx:l[i]<0
  ·rw [if_pos hx,zDf (by omega)]
   rfl
  ·rw [if_neg hx,zDt (show 0≤l[i] by omega)]
   by_cases hm:l[i] > m
   ·rw [if_pos hm,zDf (by omega)]
    rfl
   ·rw [if_neg hm,zDt (show l[i]≤m by omega),w64 (x:=l[i]+1) (by omega) (by omega),w64 (x:=(i:Int)+1) (by omega) (by omega)]
    simp only [Bool.true_and];have e:mx m (l[i]+1)=if l[i]=m then m+1 else m:=by
     unfold mx;split<;>split<;>omega
    rw [e];split
    ·exact ygj l hn j (i+1) k (m+1) (by omega) (by omega) (by omega) (by omega)
    ·exact ygj l hn j (i+1) k m (by omega) (by omega) (by omega) (by omega)
theorem ycx (l:List Int) {k:Nat} (hk:20≤k):mobs_IsParting.f k l=some (isP l):=by
 unfold mobs_IsParting.f isP
 by_cases h:l.length≤12
 ·have h1:mobs_IsParting.l0 k 0 l (l.length:Int) 0=_:=ygj l h l.length 0 k 0 (by omega) (by omega) (by omega) (by omega)
  rw [if_neg (by omega),zDt h,h1];rfl
 ·rw [if_pos (by omega),zDf h]
  rfl
theorem y4s {l:List Int} (h:isP l=true):l.length≤12:=by
 simp only [isP,Bool.and_eq_true,decide_eq_true_eq] at h;exact h.1
end Go.Proofs.Ytfgcijifdbgpaaa.Pl
namespace Go.Proofs.Ytfgcijifdbgpaaa.Pl
open Go.RowKit Go.Proofs.Ytfgcijifdbgpaaa.P Go.Proofs.Ytfgcijifdbgpaaa.Ext Go.Proofs.YtfgcijifdbgpaaaW.Wd Go.Proofs.YtfgcijifdbgpaaaW.La
def y53 (a b:List Int):Int:=if a.length≤12 then (if isP a=true then (if b.length≤12 then (if isP b=true then (if a.length=b.length then 0 else 2) else 2) else 3) else 2) else 3
theorem ycm (a b:List Int) {k:Nat} (hk:30≤k):mobs_read.f k [a,b]=some (y53 a b):=by
 obtain ⟨k,rfl⟩:∃ j,k=j+3:=⟨k - 3,by omega⟩
 have e0:y1s [a,b] 0=a:=rfl;have e1:y1s [a,b] 1=b:=rfl;have w1:wrap64 (0+1)=1:=by rw [w64 (by omega) (by omega)];rfl
 have w2:wrap64 (1+1)=2:=by rw [w64 (by omega) (by omega)];rfl
 unfold mobs_read.f y53;simp only [List.length_cons,List.length_nil];unfold mobs_read.l0;rw [if_pos (by decide),if_pos (by decide),if_pos (by simp),e0]
 by_cases hl:a.length≤12
 rotate_left
 ·rw [if_pos (by omega),if_neg hl]
 rw [if_neg (by omega),if_pos hl,ycx a (by omega)];simp only [Option.bind_some]
 by_cases hp:isP a=true
 rotate_left
 ·rw [if_neg hp,if_neg hp]
 rw [if_pos hp,if_pos hp,w1];unfold mobs_read.l0;rw [if_pos (by decide),if_pos (by decide),if_pos (by simp),e1]
 by_cases hl2:b.length≤12
 rotate_left
 ·rw [if_pos (by omega),if_neg hl2]
 rw [if_neg (by omega),if_pos hl2,ycx b (by omega)];simp only [Option.bind_some]
 by_cases hp2:isP b=true
 rotate_left
 ·rw [if_neg hp2,if_neg hp2]
 rw [if_pos hp2,if_pos hp2,w2];unfold mobs_read.l0;rw [if_neg (by decide),if_pos (by simp),if_pos (by simp),if_pos (by simp),e0,e1]
 by_cases he:a.length=b.length
 ·rw [if_pos (by omega),if_pos he]
 ·rw [if_neg (by omega),if_neg he]
theorem y4d {a b:List Int} (h:y53 a b=0):isP a=true∧isP b=true∧a.length=b.length:=by
 unfold y53 at h
 by_cases h1:a.length≤12
 ·rw [if_pos h1] at h
  by_cases h2:isP a=true
  ·rw [if_pos h2] at h
   by_cases h3:b.length≤12
   ·rw [if_pos h3] at h
    by_cases h4:isP b=true
    ·rw [if_pos h4] at h
     by_cases h5:a.length=b.length
     ·exact ⟨h2,h4,h5⟩
     ·rw [if_neg h5] at h
      omega
    ·rw [if_neg h4] at h
     omega
   ·rw [if_neg h3] at h
    omega
  ·rw [if_neg h2] at h
   omega
 ·rw [if_neg h1] at h
  omega
theorem yfn:∀ (l:List Int) (m:Int),0≤m->rgs m l=true->∀ x ∈ l,0≤x∧x≤m+l.length
 |[],_,_,_,x,hx=>by simp at hx
 |y :: l,m,hm,h,x,hx=>by
  simp only [rgs,Bool.and_eq_true,decide_eq_true_eq] at h;obtain ⟨h1,h2,h3⟩:=h;rw [List.length_cons];rcases List.mem_cons.1 hx with rfl|hx
  ·omega
  ·by_cases hy:y=m
   ·rw [if_pos hy] at h3
    have:=yfn l (m+1) (by omega) h3 x hx;omega
   ·rw [if_neg hy] at h3
    have:=yfn l m hm h3 x hx;omega
theorem isP_bd {l:List Int} (h:isP l=true):∀ x ∈ l,0≤x∧x≤12:=by
 have hl:=y4s h;simp only [isP,Bool.and_eq_true,decide_eq_true_eq] at h;intro x hx;have:=yfn l 0 (by omega) h.2 x hx;omega
theorem ygq {l:List Int} (h:isP l=true):∀ x ∈ l,In64 x:=fun x hx=>by
 have:=isP_bd h x hx;unfold In64;omega
def keys (a b:List Int):List S74:=(a.zip b).map fun p=>⟨p.1,p.2⟩
theorem yhc {a b:List Int} (ha:isP a=true) (hb:isP b=true) (hl:a.length=b.length):∀ (d i k:Nat),i+d=a.length->d+1≤k->mobs_below.l0 k a b ((keys a b).take i) (a.length:Int) (i:Int)=some (numL (a.zip b))
 |d,i,0,_,h=>absurd h (by omega)
 |0,i,k+1,hd,_=>by
  have hn:=y4s ha;have hi:i=a.length:=by omega
  subst hi;unfold mobs_below.l0;have hk:(keys a b).take a.length=keys a b:=List.take_of_length_le (by simp [keys];omega);rw [if_neg (by omega),hk];unfold mobs_number_2_int.f;have h1:(∀ p ∈ keys a b,In64 p.f0∧In64 p.f1)∧(keys a b).length<17592186044416:=by
   refine ⟨fun p hp=>?_,by simp [keys];omega⟩;simp only [keys,List.mem_map] at hp;obtain ⟨q,hq,rfl⟩:=hp;exact ⟨ygq ha _ (List.of_mem_zip hq).1,ygq hb _ (List.of_mem_zip hq).2⟩
  rw [if_pos h1];have e:(keys a b).map (fun p=>(p.f0,p.f1))=a.zip b:=by
   unfold keys;rw [List.map_map];exact List.map_id _
  rw [e];rfl
 |d+1,i,k+1,hd,hk=>by
  have hn:=y4s ha;unfold mobs_below.l0;have ht:((keys a b).take i).length=i:=by simp [keys];omega
  have hs:(keys a b).take i ++ [(⟨rd a (i:Int),rd b (i:Int)⟩:S74)]=(keys a b).take (i+1):=by
   rw [List.take_succ_eq_append_getElem (by simp [keys];omega)]
   congr 1
   simp [keys,rd_at (show i<a.length by omega),rd_at (show i<b.length by omega)]
  rw [if_pos (by omega),if_pos (by omega),if_pos (by omega),if_pos (by omega),if_pos (by omega),hs,w64 (by omega) (by omega),show ((i:Int)+1)=((i+1:Nat):Int) by omega];exact yhc ha hb hl d (i+1) k (by omega) (by omega)
theorem yhd {a b:List Int} (ha:isP a=true) (hb:isP b=true) (hl:a.length=b.length) {k:Nat} (hk:20≤k):mobs_below.f k a b=some (numL (a.zip b)):=by
 have hn:=y4s ha;have h:mobs_below.l0 k a b ((keys a b).take 0) (a.length:Int) ((0:Nat):Int)=_:=yhc ha hb hl a.length 0 k (by omega) (by omega);exact h
theorem yhh {a b:List Int} (ha:isP a=true) (hb:isP b=true) (hl:a.length=b.length):mobs_above.f a b=some (aboveL a b):=by
 have hn:=y4s ha;unfold mobs_above.f;rw [if_pos ⟨hl,ygq ha,by omega⟩]
theorem yax (a b:List Int):(aboveL a b).length=a.length:=by
 unfold aboveL;rw [y2n,y2j]
theorem yav {a b:List Int} (hl:a.length=b.length):(numL (a.zip b)).length=a.length:=by
 rw [y2n,List.length_zip];omega
end Go.Proofs.Ytfgcijifdbgpaaa.Pl
namespace Go.Mt
open Go.Tr Go.Conc Go.ConcN Go.Proofs Go.RowKit
open Go.Proofs.Ytfgcijifdbgpaaa Go.Proofs.Ytfgcijifdbgpaaa.P Go.Proofs.YtfgcijifdbgpaaaW.Wd Go.Proofs.YtfgcijifdbgpaaaW.La Go.Proofs.YtfgcijifdbgpaaaW.Mo
theorem yfy {K:Cfg} {L:List Nat} {v v':Value} (h:RelC K L v v') (hf:y1m v=true):v'=v:=by
 cases h with
 |flat _=>rfl
 |slice _ _ _=>cases hf
 |map _=>cases hf
 |func _ _ _=>cases hf
theorem yi7 {K:Cfg} {L:List Nat} {cs cs':Array Value} (h:RelCs K L cs cs') (hf:cs.all y1m=true):cs'=cs:=by
 obtain ⟨h1,h2⟩:=h;apply Array.ext h1;intro i hi hi';have ha:=Array.getElem?_eq_getElem hi';have hb:=Array.getElem?_eq_getElem hi;exact yfy (h2 i _ _ ha hb) (Array.all_eq_true_iff_forall_mem.1 hf _ (Array.getElem_mem hi'))
section
variable {K:Cfg} {L:List Nat} {u w:World} {Sh:Loc->Prop} {W0:World}
theorem yfj (hW:WRel K L u w) {v v':Value} (hr:RelP K L v v') {a:Option Addr} {n cp:Nat} (hv:v=.slice a n cp):ycc u a:=by
 intro ad ha;subst hv;cases hr with
 |cell hr =>
  cases hr with
  |flat h=>rw [ha] at h;simp [y1m] at h
  |slice hb ho hs =>
   obtain rfl:=zSi ha;rcases hW.obj hb with ⟨c,c',e,e1,fr,fr',h1,h2,h3,_,_⟩|⟨es,es',cl,h1,_⟩|⟨st,p,h1,_⟩
   ·refine .inl ⟨c,e,fr,h1,fun i x hx=>?_⟩
    obtain ⟨v',_,hv⟩:=h3 i x hx;exact ⟨K,L,v',hv⟩
   ·exact .inr (.inl ⟨es,cl,h1⟩)
   ·exact .inr (.inr ⟨st,p,h1⟩)
theorem ShI.no (hI:ShI W0 K L Sh w) (hW:WRel K L u w) (hRd:∀ b,K.Rd b->b<K.N) {b b' s:Nat} (hb:RelB K L b b' s):b'<w.heap.size∧∀ l,inB b' l->¬ Sh l:=by
 rcases hb with ⟨_,⟨hr,hl,rfl⟩|⟨j,_,hj,hn⟩⟩|⟨j,_,hj⟩|hro
 ·exact ⟨Nat.lt_of_lt_of_le hl hW.wsize,hI.rd b' hr⟩
 ·exact ⟨hW.fresh j b' hj,hI.al b' ⟨List.mem_iff_getElem?.2 ⟨j,hj⟩,hn⟩⟩
 ·exact ⟨Nat.lt_of_lt_of_le (hW.ali j b' s hj).1 hW.wsize,hI.ra j b' s hj⟩
 ·exact ⟨Nat.lt_of_lt_of_le (hW.roa b b' s hro).2.2.1 hW.wsize,hI.rr b b' s hro⟩
theorem y48 {u:World} {ad:Addr} {x:Value} (h:u.cell? ad=some x):ad.block<u.heap.size∧ad.spot=none∧∃ cs e fr,u.heap[ad.block]?=some (.cells cs e fr)∧cs[ad.off]?=some x:=by
 unfold World.cell? at h;split at h
 ·rename_i cs e fr hb
  split at h
  ·cases h
  ·rename_i hs
   exact ⟨(zGe hb).1,by simpa using hs,cs,e,fr,hb,h⟩
 ·cases h
theorem yh9 {u w:World} {ad:Addr} (h:w.heap[ad.block]?=u.heap[ad.block]?):w.cell? ad=u.cell? ad:=by
 unfold World.cell?;rw [h]
theorem yj1 {ad:Addr} (h:ad.spot=none) (j:Nat):ad.add j=⟨ad.block,ad.off+j,none⟩:=by
 cases ad with
 |mk b o s =>
  obtain rfl:s=none:=h;unfold Addr.add;split<;>simp_all
structure TwoRow (u w:World) (Sh:Loc->Prop) (v v':Value) (a:Option Addr) (l:List Int) (cp:Nat) (sa:Option Addr):Prop where
 lone:v=.slice a l.length cp
 comp:v'=sl sa l.length cp
 cap:l.length≤cp
 len:l.length≤9223372036854775807
 C:∀ w,Old u w->Kd.C (Kd.int .i64) w a l.length l
 row:RowAt w Sh sa l
 nil0:sa=none->l=[]
 spot:∀ x,sa=some x->0<l.length->x.spot=none
theorem yf3 (hW:WRel K L u w) (hI:ShI W0 K L Sh w) (hRd:∀ b,K.Rd b->b<K.N) {v v':Value} (hr:RelP K L v v') (h:yhm u v):∃ a l cp sa,TwoRow u w Sh v v' a l cp sa:=by
 obtain ⟨a,n,cp,rfl,hcp,hn,hc⟩:=h;obtain ⟨l,hl,hlv⟩:∃ l:List Int,l.length=n∧∀ j,j<n->∃ ad,a=some ad∧u.cell? (ad.add j)=some (.int .i64 (l.getD j 0)):=by
  have hch:∀ j:Nat,∃ x:Int,j<n->∃ ad,a=some ad∧u.cell? (ad.add j)=some (.int .i64 x):=fun j=>by
   by_cases hj:j<n
   ·obtain ⟨ad,x,h1,h2⟩:=hc j hj
    exact ⟨x,fun _=>⟨ad,h1,h2⟩⟩
   ·exact ⟨0,fun h=>absurd h hj⟩
  refine ⟨(List.range n).map fun j=>Classical.choose (hch j),by simp,fun j hj=>?_⟩;have:=Classical.choose_spec (hch j) hj;simpa [List.getD_eq_getElem?_getD,hj] using this
 subst hl;have hC:∀ w,Old u w->Kd.C (Kd.int .i64) w a l.length l:=fun w ho=>by
  refine Kd.C_of_reads (d:=(0:Int)) (h1:=fun _=>rfl) ⟨rfl,hn,fun hp=>?_⟩;obtain ⟨ad,ha,_⟩:=hlv 0 hp;refine ⟨ad,ha,fun j hj=>?_⟩;obtain ⟨ad',ha',hx⟩:=hlv j hj;obtain rfl:=zSi (ha.symm.trans ha');rw [← hx];have hb:=(y48 hx).1;exact yh9 (ho.block _ hb)
 cases hr with
 |cell hr =>
  cases hr with
  |flat h =>
   have ha:a=none:=by simpa [y1m] using h
   subst ha;have hl0:l=[]:=by
    apply Classical.byContradiction;intro hne;obtain ⟨ad,h,_⟩:=hlv 0 (List.length_pos_iff.2 hne);cases h
   exact ⟨none,l,cp,none,⟨rfl,rfl,hcp,hn,hC,fun x hx=>(by cases hx),fun _=>hl0,fun x hx=>(by cases hx)⟩⟩
  |@slice ad ad' _ _ s hb ho hs =>
   have hno:=hI.no hW hRd hb;have hsp:0<l.length->ad.spot=none:=fun hp=>by
    obtain ⟨ad1,h1,h2⟩:=hlv 0 hp;obtain rfl:=zSi h1;have e0:ad.add 0=ad:=by unfold Addr.add;rw [if_pos rfl]
    rw [e0] at h2;exact (y48 h2).2.1
   refine ⟨some ad,l,cp,some ad',⟨rfl,rfl,hcp,hn,hC,fun x hx=>?_,fun h=>(by cases h),fun x hx hp=>?_⟩⟩
   ·obtain rfl:=zSi hx
    refine ⟨hno.1,hno.2,?_⟩;rcases hW.obj hb with ⟨c,c',e,e1,fr,fr',h1,h2,h3,_,_⟩|⟨es,es',cl,h1,_⟩|⟨st,p,h1,_⟩
    ·refine ⟨c',e1,fr',fun hp=>?_,fun i v hi=>?_⟩
     ·obtain ⟨ad1,g1,g2⟩:=hlv 0 hp
      obtain rfl:=zSi g1;obtain ⟨_,_,cs,e',fr1,g3,g4⟩:=y48 g2;have e0:ad.add 0=ad:=by unfold Addr.add;rw [if_pos rfl]
      rw [e0] at g3 g4;rw [h1] at g3;injection g3 with g3
      injection g3 with g3
      subst g3;exact h2 (Nat.lt_of_le_of_lt (Nat.zero_le _) (zGe g4).1)
     ·have hlt:i<l.length:=(List.getElem?_eq_some_iff.1 hi).1
      obtain ⟨ad1,g1,g2⟩:=hlv i hlt;obtain rfl:=zSi g1;have hs0:=hsp (by omega);rw [yj1 hs0] at g2;obtain ⟨_,_,cs,e',fr1,g3,g4⟩:=y48 g2;simp only at g3 g4;rw [h1] at g3;injection g3 with g3
      injection g3 with g3
      subst g3;obtain ⟨v',g5,g6⟩:=h3 _ _ g4;have hv:l.getD i 0=v:=by rw [List.getD_eq_getElem?_getD,hi];rfl
      rw [hv] at g6;have hv':v'=.int .i64 v:=by cases g6 with|flat _=>rfl
      rw [show i+ad'.off=ad.off+i+s by omega,g5,hv']
    ·refine ⟨#[],0,(0,0),fun hp=>?_,fun i v hi=>?_⟩
     ·exfalso
      obtain ⟨ad1,g1,g2⟩:=hlv 0 hp;obtain rfl:=zSi g1;obtain ⟨_,_,cs,e',fr1,g3,g4⟩:=y48 g2;have e0:ad.add 0=ad:=by unfold Addr.add;rw [if_pos rfl]
      rw [e0,h1] at g3;cases g3
     ·exfalso
      have hlt:i<l.length:=(List.getElem?_eq_some_iff.1 hi).1;obtain ⟨ad1,g1,g2⟩:=hlv 0 (by omega);obtain rfl:=zSi g1;obtain ⟨_,_,cs,e',fr1,g3,g4⟩:=y48 g2;have e0:ad.add 0=ad:=by unfold Addr.add;rw [if_pos rfl]
      rw [e0,h1] at g3;cases g3
    ·refine ⟨#[],0,(0,0),fun hp=>?_,fun i v hi=>?_⟩
     ·exfalso
      obtain ⟨ad1,g1,g2⟩:=hlv 0 hp;obtain rfl:=zSi g1;obtain ⟨_,_,cs,e',fr1,g3,g4⟩:=y48 g2;have e0:ad.add 0=ad:=by unfold Addr.add;rw [if_pos rfl]
      rw [e0,h1] at g3;cases g3
     ·exfalso
      have hlt:i<l.length:=(List.getElem?_eq_some_iff.1 hi).1;obtain ⟨ad1,g1,g2⟩:=hlv 0 (by omega);obtain rfl:=zSi g1;obtain ⟨_,_,cs,e',fr1,g3,g4⟩:=y48 g2;have e0:ad.add 0=ad:=by unfold Addr.add;rw [if_pos rfl]
      rw [e0,h1] at g3;cases g3
   ·obtain rfl:=zSi hx
    rw [hs];exact hsp hp
theorem y9d {u' w':World} (hW:WRel K L u w) (hN:0<K.N) (ho:Old u u') (hk:RelyK K L w w') {m:Nat} {ex:List Nat} (hsz:u'.heap.size=u.heap.size+m+ex.length)
  (hex:∀ (j b:Nat),ex[j]?=some b->w.heap.size≤b∧∃ o,u'.heap[u.heap.size+m+j]?=some o∧w'.heap[b]?=some o∧RelO K (L ++ (List.replicate m 0 ++ ex)) o o) (hnd:∀ (i j b:Nat),ex[i]?=some b->ex[j]?=some b->i=j):WRel K (L ++ (List.replicate m 0 ++ ex)) u' w':=by
 have hpre:L <+: L ++ (List.replicate m 0 ++ ex):=List.prefix_append _ _;have split:∀ (j b:Nat),(L ++ (List.replicate m 0 ++ ex))[j]?=some b->(L[j]?=some b∧b<w.heap.size)∨b=0∨∃ i,j=L.length+m+i∧ex[i]?=some b:=by
  intro j b hj
  by_cases h1:j<L.length
  ·rw [List.getElem?_append_left h1] at hj
   exact .inl ⟨hj,hW.fresh j b hj⟩
  ·rw [List.getElem?_append_right (by omega)] at hj
   by_cases h2:j - L.length<m
   ·rw [List.getElem?_append_left (by simpa using h2),List.getElem?_replicate,if_pos h2] at hj
    exact .inr (.inl (zSi hj).symm)
   ·rw [List.getElem?_append_right (by simp;omega)] at hj
    exact .inr (.inr ⟨_,by simp;omega,hj⟩)
 have hus:=hW.usize;have hws:=hW.wsize;refine ⟨by rw [hsz];simp;omega,Nat.le_trans hws hk.size,ho.os.trans (hW.os.trans hk.os.symm),ho.output.trans (hW.output.trans hk.output.symm),fun j b hj=>?_,fun j b hj hn=>?_,fun i j b hi hj hn=>?_,fun b hb hl=>?_,hW.wr,fun j b' s hj=>?_,fun b b' s hj=>?_⟩
 ·rcases split j b hj with ⟨_,h⟩|rfl|⟨i,_,h⟩
  ·exact Nat.lt_of_lt_of_le h hk.size
  ·have:=hk.size
   omega
  ·obtain ⟨_,o,_,h2,_⟩:=hex i b h
   exact (zGe h2).1
 ·rcases split j b hj with ⟨h,_⟩|rfl|⟨i,rfl,h⟩
  ·obtain ⟨o,o',h1,h2,h3⟩:=hW.new j b h hn
   refine ⟨o,o',?_,?_,h3.mono hpre⟩
   ·rw [ho.block _ (zGe h1).1,h1]
   ·rw [hk.own b ⟨List.mem_iff_getElem?.2 ⟨j,h⟩,hn⟩,h2]
  ·omega
  ·obtain ⟨_,o,h1,h2,h3⟩:=hex i b h
   exact ⟨o,o,by rw [← h1];congr 1;omega,h2,h3⟩
 ·rcases split i b hi with ⟨h,h'⟩|rfl|⟨i',rfl,h⟩
  ·rcases split j b hj with ⟨g,g'⟩|rfl|⟨j',rfl,g⟩
   ·exact hW.nodup i j b h g hn
   ·omega
   ·have:=(hex j' b g).1
    omega
  ·omega
  ·rcases split j b hj with ⟨g,g'⟩|rfl|⟨j',rfl,g⟩
   ·have:=(hex i' b h).1
    omega
   ·omega
   ·rw [hnd i' j' b h g]
 ·obtain ⟨c,c',e,fr,fr',h1,h2,h3,h4⟩:=hW.old b hb hl
  exact ⟨c,c',e,fr,fr',by rw [ho.block _ (zGe h1).1,h1],by rw [hk.rd b hb hl,h2],⟨h3.1,fun i v v' g1 g2=>(h3.2 i v v' g1 g2).mono hpre⟩,h4⟩
 ·obtain ⟨h1,h2,⟨x,h3,h4⟩,c,c',e,e',fr',h5,h6,h7⟩:=hW.ali j b' s hj
  exact ⟨h1,h2,⟨x,ybr hpre h3,h4⟩,c,c',e,e',fr',by rw [ho.block _ (zGe h5).1,h5],by rw [hk.al j b' s hj,h6],h7.mono hpre⟩
 ·obtain ⟨h1,h2,h3,h4,c,c',e,e',fr',h5,h6,h7⟩:=hW.roa b b' s hj
  exact ⟨h1,h2,h3,h4,c,c',e,e',fr',by rw [ho.block _ (zGe h5).1,h5],fun hp=>by rw [hk.ro b b' s hj];exact h6 hp,h7.mono hpre⟩
theorem y6i (xs:List Int) (cap:Nat):∀ c ∈ rowA xs cap,y1m c=true:=by
 intro c hc;unfold rowA at hc;rcases Array.mem_append.1 hc with hc|hc
 ·simp only [nums,List.mem_toArray,List.mem_map] at hc
  obtain ⟨x,_,rfl⟩:=hc;rfl
 ·rw [Ext.zeros_int _ c hc]
  rfl
theorem yd6 {B:Nat} {v v':Value} {xs:List Int} (hRd:∀ b,¬ K.Rd b) (hal:K.al=[]) (hB:K.N≤B) (hW:WRel K L u w) (hr:RelP K L v v') (h:Ext.OwnI u B v xs) :
  (xs=[]∧v'=.slice none 0 0)∨(xs≠[]∧∃ b cap,v'=.slice (some ⟨b,0,none⟩) xs.length cap∧b ∈ L∧w.heap[b]?=some (.cells (rowA xs cap) 3 (0,0))∧xs.length≤cap∧cap≤maxLen):=by
 rcases ybt h with ⟨rfl,rfl⟩|⟨hx,g,cap,rfl,hg,hgb,h1,h2⟩
 ·refine .inl ⟨rfl,?_⟩
  cases hr with
  |cell hr=>cases hr with|flat _=>rfl
 ·refine .inr ⟨hx,?_⟩
  cases hr with
  |cell hr =>
   cases hr with
   |flat h=>simp [y1m] at h
   |@slice a a' n c s hb ho hs =>
    rcases hb with ⟨rfl,⟨hr,_,_⟩|⟨j,hj,hL,hn⟩⟩|⟨j,_,hj⟩|hro
    ·exact absurd hr (hRd _)
    ·obtain ⟨o,o',g1,g2,g3⟩:=hW.new j a'.block hL hn
     simp only at hj;rw [← hj,hgb] at g1;obtain rfl:=zSi g1;cases g3 with
     |cells g3 =>
      have:=yi7 g3 (Array.all_eq_true_iff_forall_mem.2 (y6i xs cap));subst this;refine ⟨a'.block,cap,?_,List.mem_iff_getElem?.2 ⟨j,hL⟩,g2,h1,h2⟩;cases a' with
      |mk b o s =>
       simp only at ho hs;subst ho hs;rfl
    ·rw [hal] at hj
     simp at hj
    ·have:=(hW.roa _ _ _ hro).1
     simp only at this;omega
end
end Go.Mt
namespace Go.Mt
open Go.Tr Go.Conc Go.ConcN Go.Proofs Go.RowKit
open Go.Proofs.Ytfgcijifdbgpaaa Go.Proofs.Ytfgcijifdbgpaaa.P Go.Proofs.Ytfgcijifdbgpaaa.Pl Go.Proofs.YtfgcijifdbgpaaaW.Wd Go.Proofs.YtfgcijifdbgpaaaW.La Go.Proofs.YtfgcijifdbgpaaaW.Mo
def xad (i:Nat) (s:Option Addr):Option Addr:=s.map fun x=>⟨i,0,x.spot⟩
theorem ydh (i:Nat) (s:Option Addr) (n c:Nat):xl i s n c=.slice (xad i s) n c:=by cases s<;>rfl
theorem xa_C {u:World} {i:Nat} {s:Option Addr} {l:List Int} (hn:l.length≤9223372036854775807) (h0:s=none->l=[]) (hs:∀ x,s=some x->0<l.length->x.spot=none) (hb:u.heap[i]?=some (intO l)):Kd.C (Kd.int .i64) u (xad i s) l.length l:=by
 refine Kd.C_of_reads (d:=(0:Int)) (h1:=fun _=>rfl) ⟨rfl,hn,fun hp=>?_⟩;cases s with
 |none =>
  have:=h0 rfl;subst this;simp at hp
 |some x =>
  refine ⟨⟨i,0,x.spot⟩,rfl,fun j hj=>?_⟩;rw [hs x rfl hp,y2t,cell_of_row u i j _ _ _ hb];simp [y92,List.getElem?_eq_getElem hj,List.getD_eq_getElem?_getD]
theorem y7w {N:Nat} {u:World} {v:Value} {xs:List Int} (τ:Nat->Question->Nat) (h:Ext.OwnI u N v xs):Ext.OwnI (retape u τ) N v xs:=h.move fun _ _=>rfl
theorem ye7 {K:Cfg} {L:List Nat} {cs:Array Value} (h:∀ c ∈ cs,y1m c=true):RelV K L (.tuple cs) (.tuple cs):=.tuple ⟨rfl,fun i v v' h1 h2=>by
 rw [h1] at h2;obtain rfl:=zSi h2;exact .cell (.flat (h v (Array.mem_iff_getElem?.2 ⟨i,h1⟩)))⟩
theorem yg8 {N:Nat} {u:World} {v:Value} {xs:List Int} (h:Ext.OwnI u N v xs):∃ s n c,v=.slice s n c:=by
 rcases ybt h with ⟨_,rfl⟩|⟨_,g,cap,rfl,_⟩<;>exact ⟨_,_,_,rfl⟩
section
variable {W0:World} {S T:FuncId->Bool} {K:Cfg} {Post:FuncId->Array Value->World->Prop}
theorem y9l (hP:∀ f t u τ,Post f t u->Post f t (retape u τ)) (hN:0<K.N) (hRd:∀ b,K.Rd b->b<K.N):SpecF 9 W0 Tra.prog Try.prog.funcs S T kdOf K [] [] Post:=by
 intro L g g' gs u w t q Sh sl0 hE hLT hW hI hF;obtain ⟨xs,xs',cs,cs',rfl,rfl,has,hne,hz,hstk⟩:=hE;have h0:xs.size=2:=by
  have:(match Tra.prog.funcs[9]? with|some fn=>fn.params.size == xs.size|none=>false)=true:=hz;rw [Tra.func9] at this;have h2:Tra.f9.params.size=2:=rfl;simp only [h2,beq_iff_eq] at this;exact this.symm
 obtain ⟨va,vb,rfl⟩:∃ a b,xs=#[a,b]:=⟨xs[0],xs[1],by
  apply Array.ext
  ·simp [h0]
  ·intro i h1 h2
   rcases i with _|_|i
   ·rfl
   ·rfl
   ·omega⟩
 have h0':xs'.size=2:=has.1.trans rfl;obtain ⟨va',vb',rfl⟩:∃ a b,xs'=#[a,b]:=⟨xs'[0],xs'[1],by
  apply Array.ext
  ·simp [h0']
  ·intro i h1 h2
   rcases i with _|_|i
   ·rfl
   ·rfl
   ·omega⟩
 have hra:RelP K L va va':=has.2 0 _ _ rfl rfl;have hrb:RelP K L vb vb':=has.2 1 _ _ rfl rfl;have hbare:=hstk.bare;cases hstk with
 |nil=>exact absurd rfl hne
 |@cons _ g tm tm' ops i rest td cs cs' o ht ho hd hc hSg hs =>
  obtain ⟨ia,ib,s,hAt⟩:=in34 hP hbare (fun a n cp hv=>yfj hW hra hv) (fun a n cp hv=>yfj hW hrb hv) (At.mk hLT (.nil (y1j u)));obtain ⟨a,la,ca,sa,ra⟩:=yf3 hW hI hRd hra ia;obtain ⟨b,lb,cb,sb,rb⟩:=yf3 hW hI hRd hrb ib;obtain ⟨rfl,rfl,hca,hna,hCa,hrowa,hna0,hspa⟩:=ra;obtain ⟨rfl,rfl,hcb,hnb,hCb,hrowb,hnb0,hspb⟩:=rb;have hrd:mobs_read.f 30 [la,lb]=some (y53 la lb):=ycm la lb (zLe _);have hbel:y53 la lb=0->mobs_below.f 30 la lb=some (Ext.numL (la.zip lb)):=fun he=>let ⟨q1,q2,q3⟩:=y4d he;yhd q1 q2 q3 (by decide)
  have habv:y53 la lb=0->mobs_above.f la lb=some (Ext.aboveL la lb):=fun he=>let ⟨q1,q2,q3⟩:=y4d he;yhh q1 q2 q3
  have hg:yj6 w Sh (roAB sa sb) [intO la,intO lb] sa sb:=yei hI.shB hI.mem hrowa hrowb;have hwf:wf Tra.prog Try.prog.funcs=Try.prog:=Tra.same;rw [hwf] at hF;refine (meetCo (sl0:=sl0) (er:=y53 la lb) (Post0:=fun n v u=>Ext.OwnI u n v (Ext.numL (la.zip lb))) (Post1:=fun n v u=>Ext.OwnI u n v (Ext.aboveL la lb)) Tra.duo.same Tra.duo.calm (fun _ h=>h) Tra.s20 Tra.s24 Tra.s26 hg
   (fun _ _ _ τ h=>y7w τ h) (fun _ _ _ τ h=>y7w τ h) (fun _ _ _ h=>yg8 h)
   (fun u hA hu=>?_) (fun he u hA=>?_) (fun he u hA=>?_) hF).mono fun m t ⟨gs',w',sl',q',Sh',r,hm,hF',hleft⟩=>?_
  ·rw [ydh,ydh] at hu
   exact (mobs_read.calls 30 (some ⟨2,0,none⟩) 2 [la,lb] (y53 la lb) u (pair_C hu (xa_C hna hna0 hspa (hA 0 _ rfl)) hca (xa_C hnb hnb0 hspb (hA 1 _ rfl)) hcb) (by simp) hrd).mono fun e w' hp=>hp.1
  ·rw [ydh,ydh]
   exact (mobs_below.flat 30 _ ca la _ cb lb _ u (xa_C hna hna0 hspa (hA 0 _ rfl)) hca (xa_C hnb hnb0 hspb (hA 1 _ rfl)) hcb (hbel he)).mono fun e w' ⟨v,h1,h2,_⟩=>⟨v,h1,h2⟩
  ·rw [ydh,ydh]
   exact (mobs_above.own _ ca la _ cb lb _ u (xa_C hna hna0 hspa (hA 0 _ rfl)) hca (xa_C hnb hnb0 hspb (hA 1 _ rfl)) hcb (habv he)).mono fun e w' ⟨v,h1,h2,_⟩=>⟨v,h1,h2⟩
  have hrel:RelyK K L w w':=⟨hleft.kept.os,hleft.kept.output,hleft.kept.size,fun b hb hl=>hleft.kept.old b (Nat.lt_of_lt_of_le hl hW.wsize),fun b hb=>hleft.kept.old b (hW.within b hb.1),fun j b s hj=>hleft.kept.old b (Nat.lt_of_lt_of_le (hW.ali j b s hj).1 hW.wsize),fun a b s hr=>hleft.kept.old b (Nat.lt_of_lt_of_le (hW.roa a b s hr).2.2.1 hW.wsize)⟩
  have hnone:oneB Tra.prog 9=false:=by
   have h1:(Tra.f9.results.size == 1)=false:=rfl;simpa [oneB] using h1
  have hdst:(ops[i]?).bind (·.dst)=o.dst:=by rw [ho];rfl
  have hcr:(Item.inRegion ops rest :: td).all (y3a Tra.prog T (kdOf g))=true:=by
   simp only [List.all_cons,Bool.and_eq_true,y3a] at hc ⊢;exact hc
  suffices hsuf:∃ (L':List Nat) (u':World) (y:Value),L <+: L'∧LPath Tra.prog (G (Frame.enter Tra.prog 9 #[.slice a la.length ca,.slice b lb.length cb] .normal) (frm g tm (.inRegion ops (i :: rest) :: td) .run :: (cs ++ [c0]))) u (G ((frm g tm (.inRegion ops (i :: rest) :: td) .run).finish y) (cs ++ [c0])) u'∧RelV K L' y r∧WRel K L' u' w'∧∀ b,In K L' b->In K L b∨w.heap.size≤b∧∀ l,inB b l->¬ Sh' l by
   obtain ⟨L',u',y,hpre,hpath,hry,hW',hin⟩:=hsuf;have hvd:RelD K (kdOf g) o.dst L' y r:=.tuple hry (by rw [hnone] at hd;exact hd);refine ⟨gs',w',sl',q',Sh',L',_,_,u',hm,hF',hpath,?_,?_,hW',?_⟩
   ·rintro ⟨_,h⟩
    simp only [y30,G] at h;rcases h with h|⟨_,h⟩
    ·cases h
    ·cases h
   ·simp only [y30,hdst]
    exact ⟨g,_,_,_,_,cs,cs',rfl,rfl,(ht.mono hpre).put2 _ hvd,hcr,hSg,hs.mono hpre,.inl rfl⟩
   ·have hnews:∀ l b,b<w.heap.size->Sh' l->inB b l->Sh l:=fun l b hb h1 h2=>by
     rcases hleft.news l b h1 h2 with h|h
     ·exact h
     ·omega
    refine ⟨hI.kept.trans ⟨hleft.kept.os,hleft.kept.output,hleft.kept.tape,hleft.kept.size,fun b hb=>hleft.kept.old b (Nat.lt_of_lt_of_le hb hW.wsize)⟩,fun l hl=>hleft.sh l (hI.mem l hl),hleft.shB,fun b hb l hl hs=>?_,fun b hb l hl hs=>?_,fun j b s hj l hl hs=>?_,fun a b s hr l hl hs=>?_⟩
    ·exact hI.rd b hb l hl (hnews l b (Nat.lt_of_lt_of_le (hRd b hb) hW.wsize) hs hl)
    ·rcases hin b hb with h|⟨_,h⟩
     ·exact hI.al b h l hl (hnews l b (hW.within b h.1) hs hl)
     ·exact h l hl hs
    ·exact hI.ra j b s hj l hl (hnews l b (Nat.lt_of_lt_of_le (hW.ali j b s hj).1 hW.wsize) hs hl)
    ·exact hI.rr a b s hr l hl (hnews l b (Nat.lt_of_lt_of_le (hW.roa a b s hr).2.2.1 hW.wsize) hs hl)
  have hus:=hW.usize;have hin0:∀ (m:Nat) (ex:List Nat),(∀ b ∈ ex,w.heap.size≤b∧∀ l,inB b l->¬ Sh' l)->∀ b,In K (L ++ (List.replicate m 0 ++ ex)) b->In K L b∨w.heap.size≤b∧∀ l,inB b l->¬ Sh' l:=by
   rintro m ex hex b ⟨hb,hbn⟩
   rcases List.mem_append.1 hb with hb|hb
   ·exact .inl ⟨hb,hbn⟩
   rcases List.mem_append.1 hb with hb|hb
   ·have:=(List.mem_replicate.1 hb).2
    omega
   ·exact .inr (hex b hb)
  have bare:∀ (u':World) (vs:Array Value),Old u u'->(∀ c ∈ vs,y1m c=true)->r=.tuple vs->At Tra.prog Post (G (Frame.enter Tra.prog 9 #[.slice a la.length ca,.slice b lb.length cb] .normal) (frm g tm (.inRegion ops (i :: rest) :: td) .run :: (cs ++ [c0]))) u (G ((frm g tm (.inRegion ops (i :: rest) :: td) .run).finish (.tuple vs)) (cs ++ [c0])) u'->∃ (L':List Nat) (u':World) (y:Value),L <+: L'∧LPath Tra.prog (G (Frame.enter Tra.prog 9 #[.slice a la.length ca,.slice b lb.length cb] .normal) (frm g tm (.inRegion ops (i :: rest) :: td) .run :: (cs ++ [c0]))) u (G ((frm g tm (.inRegion ops (i :: rest) :: td) .run).finish y) (cs ++ [c0])) u'∧RelV K L' y r∧WRel K L' u' w'∧∀ b,In K L' b->In K L b∨w.heap.size≤b∧∀ l,inB b l->¬ Sh' l:=by
   intro u' vs hold hfl hr hat;refine ⟨L ++ (List.replicate (u'.heap.size - u.heap.size) 0 ++ []),u',_,List.prefix_append _ _,hat.path,by rw [hr];exact ye7 hfl,?_,hin0 _ _ (by simp)⟩;exact y9d hW hN hold hrel (by have:=hold.size;simp;omega) (by simp) (by simp)
  rcases hleft.val with ⟨hne,hr⟩|⟨he,M,L1,L2,v0,v0',u0,v1,v1',u1,hr,hM,hv0,hW0,hp0,hv1,hW1,hp1,hL1,hL2,hShM⟩
  ·obtain ⟨u',y,hat,⟨_,rfl,hold⟩|⟨he,_⟩⟩:=out34 (r0:=[]) (r1:=[]) (cap0:=0) (cap1:=0) hP hCa hca hCb hcb hrd (fun h=>absurd h hne) (fun h=>absurd h hne) (by simp) (by simp) ⟨by simp,by simp⟩ ⟨by simp,by simp⟩ hAt
   ·exact bare u' _ hold (by simp [y1m]) hr hat
   ·exact absurd he hne
  obtain ⟨hpa,hpb,hll⟩:=y4d he;have hla12:=y4s hpa;have hlen0:=yav hll;have hlen1:=yax la lb;have hn0:(Ext.numL (la.zip lb)).length<17592186044416:=by omega
  have hn1:(Ext.aboveL la lb).length<17592186044416:=by omega
  have c0':=yd6 (fun _ h=>h) rfl (zLe _) hW0 hv0 hp0;have c1':=yd6 (fun _ h=>h) rfl (zLe _) hW1 hv1 hp1;rcases c0' with ⟨e0,rfl⟩|⟨x0,b0,cap0,rfl,hb0,hw0,hc0,hm0⟩
  ·have e1:Ext.aboveL la lb=[]:=List.eq_nil_of_length_eq_zero (by rw [hlen1,← hlen0,e0];rfl)
   obtain rfl:v1'=.slice none 0 0:=by
    rcases c1' with ⟨_,h⟩|⟨h,_⟩
    ·exact h
    ·exact absurd e1 h
   obtain ⟨u',y,hat,⟨hne,_⟩|⟨_,y0,y1,w1,w2,rfl,ho1,hm1,hs1,hp1',hm2,hs2,hp2⟩⟩:=out34 (cap0:=0) (cap1:=0) hP hCa hca hCb hcb hrd hbel habv hn0 hn1 ⟨by rw [e0];simp,by simp⟩ ⟨by rw [e1];simp,by simp⟩ hAt
   ·exact absurd he hne
   have hold:Old u u':=ho1.trans ((hm1.old hs1 hp1').trans (hm2.old hs2 hp2));obtain rfl:y0=.slice none 0 0:=by
    rcases hm1 with ⟨_,h,_⟩|⟨h,_⟩
    ·exact h
    ·exact absurd e0 h
   obtain rfl:y1=.slice none 0 0:=by
    rcases hm2 with ⟨_,h,_⟩|⟨h,_⟩
    ·exact h
    ·exact absurd e1 h
   exact bare u' _ hold (by simp [y1m]) hr hat
  ·have x1:Ext.aboveL la lb≠[]:=fun h=>x0 (List.eq_nil_of_length_eq_zero (by rw [hlen0,← hlen1,h];rfl))
   obtain ⟨b1,cap1,rfl,hb1,hw1,hc1,hm1'⟩:∃ b cap,v1'=.slice (some ⟨b,0,none⟩) (Ext.aboveL la lb).length cap∧b ∈ L2∧w'.heap[b]?=some (.cells (rowA (Ext.aboveL la lb) cap) 3 (0,0))∧(Ext.aboveL la lb).length≤cap∧cap≤maxLen:=by
    rcases c1' with ⟨h,_⟩|⟨_,h⟩
    ·exact absurd h x1
    ·exact h
   obtain ⟨u',y,hat,⟨hne,_⟩|⟨_,y0,y1,w1,w2,rfl,ho1,hm1,hs1,hp1',hm2,hs2,hp2⟩⟩:=out34 (cap0:=cap0) (cap1:=cap1) hP hCa hca hCb hcb hrd hbel habv hn0 hn1 ⟨hc0,hm0⟩ ⟨hc1,hm1'⟩ hAt
   ·exact absurd he hne
   have hold:Old u u':=ho1.trans ((hm1.old hs1 hp1').trans (hm2.old hs2 hp2));rcases hm1 with ⟨h,_⟩|⟨_,rfl,hh1⟩
   ·exact absurd h x0
   rcases hm2 with ⟨h,_⟩|⟨_,rfl,hh2⟩
   ·exact absurd h x1
   have hB0:=(hL1 b0 hb0).1;have hB1:=hL2 b1 hb1;have hne01:b0≠b1:=fun h=>(hL1 b0 hb0).2 (h ▸ hb1)
   have hz1:=ho1.size;have hz2:w2.heap.size=w1.heap.size+1:=by rw [hh1,Array.size_push]
   have hz3:u'.heap.size=w1.heap.size+2:=by rw [hh2,Array.size_push,hz2]
   have hg0:u'.heap[w1.heap.size]?=some (.cells (rowA (Ext.numL (la.zip lb)) cap0) 3 (0,0)):=by
    rw [hh2,Array.getElem?_push,if_neg (by omega),hh1,Array.getElem?_push,if_pos rfl]
   have hg1:u'.heap[w1.heap.size+1]?=some (.cells (rowA (Ext.aboveL la lb) cap1) 3 (0,0)):=by
    rw [hh2,Array.getElem?_push,if_pos (by omega)]
   have hm:u.heap.size+(w1.heap.size - u.heap.size)=w1.heap.size:=by omega
   have hwk:=hW.wsize;refine ⟨L ++ (List.replicate (w1.heap.size - u.heap.size) 0 ++ [b0,b1]),u',_,List.prefix_append _ _,hat.path,?_,y9d hW hN hold hrel (by simp;omega) (fun j b hj=>?_) (fun i j b hi hj=>?_),hin0 _ _ fun b hb=>?_⟩
   ·rw [hr]
    have hat0:∀ j b,[b0,b1][j]?=some b->(L ++ (List.replicate (w1.heap.size - u.heap.size) 0 ++ [b0,b1]))[L.length+(w1.heap.size - u.heap.size)+j]?=some b:=fun j b hj=>by
     rw [List.getElem?_append_right (by omega),List.getElem?_append_right (by simp;omega)];rw [← hj]
     congr 1
     simp;omega
    refine .tuple ⟨rfl,fun i v v' h1 h2=>?_⟩;rcases i with _|_|_|i
    ·obtain rfl:_=v:=by simpa using h1
     obtain rfl:_=v':=by simpa using h2
     exact .cell (.slice (s:=0) (.inl ⟨rfl,.inr ⟨L.length+(w1.heap.size - u.heap.size)+0,by simp only;omega,hat0 0 b0 rfl,by simp only;omega⟩⟩) rfl rfl)
    ·obtain rfl:_=v:=by simpa using h1
     obtain rfl:_=v':=by simpa using h2
     exact .cell (.slice (s:=0) (.inl ⟨rfl,.inr ⟨L.length+(w1.heap.size - u.heap.size)+1,by simp only;omega,hat0 1 b1 rfl,by simp only;omega⟩⟩) rfl rfl)
    ·obtain rfl:_=v:=by simpa using h1
     obtain rfl:_=v':=by simpa using h2
     exact .cell (.flat rfl)
    ·simp at h1
   ·rcases j with _|_|j
    ·obtain rfl:b0=b:=by simpa using hj
     exact ⟨by omega,_,by rw [hm];exact hg0,hw0,.cells (y7s (y6i _ _))⟩
    ·obtain rfl:b1=b:=by simpa using hj
     exact ⟨by omega,_,by rw [hm];exact hg1,hw1,.cells (y7s (y6i _ _))⟩
    ·simp at hj
   ·rcases i with _|_|i
    ·rcases j with _|_|j
     ·rfl
     ·simp at hi hj;omega
     ·simp at hj
    ·rcases j with _|_|j
     ·simp at hi hj;omega
     ·rfl
     ·simp at hj
    ·simp at hi
   ·have hbb:M+4≤b:=by
     rcases List.mem_cons.1 hb with rfl|hb
     ·exact hB0
     ·obtain rfl:=List.mem_singleton.1 hb
      exact hB1
    exact ⟨by omega,fun l hl hs=>by have:=hShM l b hs hl;omega⟩
end
end Go.Mt
namespace Go.Mt
open Go.Tr Go.Conc Go.ConcN Go.Proofs Go.RowKit
variable {W0:World} {S T:FuncId->Bool} {K:Cfg} {Post:FuncId->Array Value->World->Prop}
theorem y31 (hP:∀ f t u τ,Post f t u->Post f t (retape u τ)) {f:FuncId} {fn:Func} (hf:Tra.prog.funcs[f]?=some fn) (hb:fn.body=some (.exit 0)):SpecF f W0 Tra.prog Try.prog.funcs S T kdOf K [] [] Post:=by
 intro L g g' gs u w t q Sh sl0 hE hLT hW hI hF;obtain ⟨xs,xs',cs,cs',rfl,rfl,has,hne,hz,hstk⟩:=hE;cases cs with
 |nil=>exact absurd rfl hne
 |cons c cs =>
  exfalso;obtain ⟨fr1,cs1,u2,es2,h2,h3⟩:=LT.go hP hLT (ybu (fr:=Frame.enter Tra.prog f xs .normal) (c:=c) (cs:=cs));rw [enter_at _ hf hb] at h2;have e:=y6e (P:=Tra.prog) true f (xs ++ Array.replicate (fn.ntmps - xs.size) undef) 0 [] (c :: (cs ++ [c0])) u;exact absurd (h2.symm.trans e) (by simp [exitTo])
theorem yfc (hP:∀ f t u τ,Post f t u->Post f t (retape u τ)) (hN:0<K.N) (hRd:∀ b,K.Rd b->b<K.N):y9b W0 Tra.prog Try.prog.funcs S1 T1 kdOf K [] [] Post:=ydv fun fe hT hS=>by
 rcases y5d (Tra.specs fe hT hS) with rfl|rfl|rfl|rfl|rfl|rfl|rfl|rfl
 ·exact y9l hP hN hRd
 ·exact y31 hP Tra.func78 rfl
 ·exact y31 hP Tra.func79 rfl
 ·exact y31 hP Tra.func80 rfl
 ·exact y31 hP Tra.func81 rfl
 ·exact y31 hP Tra.func82 rfl
 ·exact y31 hP Tra.func84 rfl
 ·exact y31 hP Tra.func85 rfl
end Go.Mt
namespace Go.Proofs.Ytfgcijifdbgpaaa.Ca
open Go.RowKit Go.Mt Go.Tr Go.Conc Go.ConcN
theorem yj0 {W w:World} (h:Kept W.heap.size W w):Below W.heap.size W w:=⟨h.os,h.tape,h.output,h.size,h.old⟩
section
variable {H:Type} {enc:TypeId × Value->H}
theorem leaving_sized {a:Assume} {C:Checked} {os:Os} {f:FuncId} {fn:Func} {s:ChangeSpec} {conds:List PathCond} {apart fresh handsOn again:Bool}
  (own:ownKnob C.prog.godebug=none) (started:os.Started) (hz0:decide (C.prog.globals.size<(begin C.prog (fun _ _=>0) default).world.heap.size)=true) (hfn:C.prog.funcs[f]?=some fn)
  (witness:∃ (w:World) (tape:Tape) (i:Input),w.os=os∧(w.forCall tape i).Shaped C.prog∧i.vars=[]∧Input.okWide C.prog (w.forCall tape i) .any w.heap.size f i ∧
   s.pre6 enc C.prog fn conds apart (w.forCall tape i).memory i.args∧a.holds C.prog (Go.lone (Frame.enter C.prog f i.args .normal) [] (w.forCall tape i)))
  (runs:∀ (W:World) (base:Nat) (args:Array Value) (ds gs:List (DataW H)) (before:List MemPlace),0<W.heap.size →
   (∀ (j:Nat) t v,fn.params[j]?=some t->args[j]?=some v->Value.okWide C.prog W .any base t v) →
   DataW.Whole enc C.prog fn.params.toList s.vars apart W args.toList ds gs before →
   conds.all (PathCond.test C.prog ⟨fn.params.toList,ds,s.plain.varTypes C.prog,gs⟩)=true →
   (DataW.weightsEach C.prog (fn.params.toList ++ s.plain.varTypes C.prog) (ds ++ gs)).all (·≤reachBytes)=true →
   a.holds C.prog (Go.lone (Frame.enter C.prog f args .normal) [] W) →
   ∃ M last o w' t',runNT C.prog (M+1) (solo (G (Frame.enter C.prog f args .normal) []) W) #[]=(.ended o w',t')∧runN C.prog M (solo (G (Frame.enter C.prog f args .normal) []) W)=.next last ∧
    step C.prog last=.ended o w'∧Conc.Good C.prog (fun v W'=>s.post enc C.prog fn apart fresh handsOn again W args v W') last o w' t') :
  ReturnsInLeavingWide a C os f .any (s.pre6 enc C.prog fn conds apart) (s.post enc C.prog fn apart fresh handsOn again):=by
 refine returnsInLeavingWide_of_good own started witness ?_;intro w tape i _ hsh _ hok hpre hholds;obtain ⟨_,_,_,fn',hfn',_,_,_,_,hval⟩:=hok;have e:fn'=fn:=zSi (hfn'.symm.trans hfn);subst e;obtain ⟨⟨ds,gs,before,hw,hc⟩,hz⟩:=hpre;have hw':=DataW.Whole.of_heap (w':=w.forCall tape i) (by rfl) hw;have h0:0<(w.forCall tape i).heap.size:=by
  obtain ⟨o,_,h1,_⟩:=hsh.2 C.prog.globals.size (zLe _) (zDo hz0);have:=(zGe h1).1;omega
 obtain ⟨M,last,o,w',t',h1,h2,h3,h4⟩:=runs (w.forCall tape i) w.heap.size i.args ds gs before h0 hval hw' hc (hz.weights hw) hholds;exact ⟨M,last,o,w',t',h1,h2,h3,h4.mono fun v hp=>ChangeSpec.post_blind hp⟩
end
theorem some_block:decide (Try.prog.globals.size<(begin Try.prog (fun _ _=>0) default).world.heap.size)=true:=by kernel_rfl
structure SlD where
 a:Option Addr
 len:Nat
 cap:Nat
 zs:List Value
def SlD.val (d:SlD):Value:=.slice d.a d.len d.cap
def SlD.ok (W:World) (d:SlD):Prop :=
 (d.a=none∧d.len=0∧d.cap=0∧d.zs=[])∨∃ x,d.a=some x∧x.spot=none∧(∃ cs e fr,W.heap[x.block]?=some (.cells cs e fr))∧d.len≤d.cap∧d.cap≤maxLen∧d.zs.length=d.cap * 3 ∧
  (∀ i,i<d.zs.length->W.cell? (x.add i)=some (d.zs.getD i undef))∧∀ v ∈ d.zs,y1m v=true
def SlD.ints (d:SlD):Array Value:=d.zs.toArray
def lone (N:Nat):Nat->List SlD->List SlD
 |_,[]=>[]
 |j,d :: ds=>match d.a with
  |none=>d :: lone N j ds
  |some _=>{ d with a:=some ⟨N+j,0,none⟩ } :: lone N (j+1) ds
def als:List SlD->List (Nat × Nat)
 |[]=>[]
 |d :: ds=>match d.a with
  |none=>als ds
  |some x=>(x.block,x.off) :: als ds
def blks:List SlD->List Obj
 |[]=>[]
 |d :: ds=>match d.a with
  |none=>blks ds
  |some _=>.cells d.ints 28 (0,d.ints.size) :: blks ds
theorem yda:∀ ds:List SlD,(blks ds).length=(als ds).length
 |[]=>rfl
 |d :: ds=>by
  unfold blks als;cases d.a<;>simp [yda ds]
theorem y91 (N:Nat):∀ (j:Nat) (ds:List SlD),(lone N j ds).length=ds.length
 |_,[]=>rfl
 |j,d :: ds=>by
  unfold lone;cases d.a<;>simp [y91]
theorem ybw (N:Nat):∀ (ds:List SlD) (j k:Nat) (d d':SlD),ds[k]?=some d->(lone N j ds)[k]?=some d' →
  d'.len=d.len∧d'.cap=d.cap∧d'.zs=d.zs∧((d.a=none∧d'.a=none)∨∃ x i,d.a=some x∧d'.a=some ⟨N+(j+i),0,none⟩∧(als ds)[i]?=some (x.block,x.off)∧(blks ds)[i]?=some (.cells d.ints 28 (0,d.ints.size)))
 |[],j,k,d,d',h,_=>by simp at h
 |c :: ds,j,k,d,d',h,h'=>by
  unfold lone at h';unfold als blks;cases hc:c.a with
  |none =>
   rw [hc] at h';simp only at h' ⊢;cases k with
   |zero =>
    simp only [List.getElem?_cons_zero,Option.some.injEq] at h h';subst h h';exact ⟨rfl,rfl,rfl,.inl ⟨hc,hc⟩⟩
   |succ k =>
    simp only [List.getElem?_cons_succ] at h h';exact ybw N ds j k d d' h h'
  |some x =>
   rw [hc] at h';simp only at h' ⊢;cases k with
   |zero =>
    simp only [List.getElem?_cons_zero,Option.some.injEq] at h h';subst h h';exact ⟨rfl,rfl,rfl,.inr ⟨x,0,hc,rfl,rfl,rfl⟩⟩
   |succ k =>
    simp only [List.getElem?_cons_succ] at h h';obtain ⟨h1,h2,h3,h4⟩:=ybw N ds (j+1) k d d' h h';refine ⟨h1,h2,h3,h4.imp id ?_⟩
    rintro ⟨y,i,e1,e2,e3,e4⟩
    exact ⟨y,i+1,e1,by rw [e2];congr 2;omega,by simpa using e3,by simpa using e4⟩
theorem ydc:∀ (ds:List SlD) (i b s:Nat),(als ds)[i]?=some (b,s)->∃ d x,d ∈ ds∧d.a=some x∧x.block=b∧x.off=s∧(blks ds)[i]?=some (.cells d.ints 28 (0,d.ints.size))
 |[],i,b,s,h=>by simp [als] at h
 |c :: ds,i,b,s,h=>by
  unfold als at h;unfold blks;cases hc:c.a with
  |none =>
   rw [hc] at h;obtain ⟨d,x,h1,h2⟩:=ydc ds i b s h;exact ⟨d,x,List.mem_cons_of_mem _ h1,h2⟩
  |some y =>
   rw [hc] at h;simp only at h;cases i with
   |zero =>
    simp only [List.getElem?_cons_zero,Option.some.injEq,Prod.mk.injEq] at h;exact ⟨c,y,List.mem_cons_self,hc,h.1,h.2,rfl⟩
   |succ i =>
    simp only [List.getElem?_cons_succ] at h;obtain ⟨d,x,h1,h2,h3,h4,h5⟩:=ydc ds i b s h;exact ⟨d,x,List.mem_cons_of_mem _ h1,h2,h3,h4,by simpa using h5⟩
def ybx (W:World) (ds:List SlD):World:={ W with heap:=Array.replicate W.heap.size (.map #[] 0) ++ (blks ds).toArray }
def KA (W:World) (ds:List SlD):Cfg:=⟨W.heap.size,fun _=>False,fun _=>False,als ds,fun _ _ _=>False⟩
theorem yao (W:World) (ds:List SlD) (j:Nat):(ybx W ds).heap[W.heap.size+j]?=(blks ds)[j]?:=by
 unfold ybx;simp only;rw [Array.getElem?_append_right (by simp)];simp
theorem yii {W:World} {ds:List SlD} (hok:∀ d ∈ ds,d.ok W):WRel (KA W ds) ((als ds).map Prod.fst) (ybx W ds) W:=by
 have hlt:∀ (j b s:Nat),(als ds)[j]?=some (b,s)->b<W.heap.size:=by
  intro j b s hj;obtain ⟨d,x,h1,h2,h3,_⟩:=ydc ds j b s hj;rcases hok d h1 with ⟨h4,_⟩|⟨y,h4,_,⟨cs,e,fr,h5⟩,_⟩
  ·rw [h2] at h4;cases h4
  ·obtain rfl:=zSi (h2.symm.trans h4)
   rw [← h3];exact (zGe h5).1
 have hL:∀ (j b:Nat),((als ds).map Prod.fst)[j]?=some b->b<W.heap.size:=by
  intro j b hj;rw [List.getElem?_map] at hj;obtain ⟨⟨b',s⟩,h1,h2⟩:=Option.map_eq_some_iff.1 hj;subst h2;exact hlt j b' s h1
 refine ⟨?_,zLe _,rfl,rfl,hL,fun j b hj hn=>?_,fun i j b hi hj hn=>?_,fun b hb=>hb.elim,fun b hb=>hb.elim,fun j b s hj=>?_,fun _ _ _ h=>h.elim⟩
 ·show (Array.replicate W.heap.size _ ++ (blks ds).toArray).size=_
  simp [KA,yda]
 ·have:=hL j b hj
  exact absurd hn (Nat.not_le_of_lt this)
 ·have:=hL i b hi
  exact absurd hn (Nat.not_le_of_lt this)
 ·replace hj:(als ds)[j]?=some (b,s):=hj
  obtain ⟨d,x,h1,h2,h3,h4,h5⟩:=ydc ds j b s hj;rcases hok d h1 with ⟨h6,_⟩|⟨y,h6,hsp,⟨cs,e,fr,h7⟩,_,_,hzl,hcell,hflat⟩
  ·rw [h2] at h6;cases h6
  ·obtain rfl:=zSi (h2.symm.trans h6)
   subst h3 h4;refine ⟨(zGe h7).1,fun h=>h,⟨x.block,by rw [List.getElem?_map,hj];rfl,(zGe h7).1⟩,d.ints,cs,28,e,fr,?_,h7,fun i v hv=>?_⟩
   ·show (ybx W ds).heap[W.heap.size+j]?=_
    rw [yao,h5]
   ·have hi:i<d.zs.length:=by
     have:=(zGe hv).1;simpa [SlD.ints] using this
    have e1:v=d.zs.getD i undef:=by
     have:d.ints[i]?=some (d.zs.getD i undef):=by simp [SlD.ints,List.getElem?_eq_getElem hi,List.getD_eq_getElem?_getD]
     exact zSi (hv.symm.trans this)
    have e2:=hcell i hi;obtain ⟨xb,xo,xs⟩:=x;simp only at hsp h7;subst hsp;have e3:(⟨xb,xo,none⟩:Addr).add i=⟨xb,xo+i,none⟩:=by unfold Addr.add;split<;>simp_all
    rw [e3,cell_of_row W xb (xo+i) cs e fr h7] at e2;exact ⟨v,by rw [Nat.add_comm,e2,e1],by rw [e1];exact .flat (hflat _ (by rw [List.getD_eq_getElem?_getD,List.getElem?_eq_getElem hi];exact List.getElem_mem hi))⟩
theorem yd0 {W:World} {ds:List SlD} (hok:∀ d ∈ ds,d.ok W) {k:Nat} {d d':SlD} (h:ds[k]?=some d) (h':(lone W.heap.size 0 ds)[k]?=some d') :
  d'.len=d.len∧d'.cap=d.cap∧d'.zs=d.zs∧RelC (KA W ds) ((als ds).map Prod.fst) d'.val d.val∧∀ u:World,u.heap=(ybx W ds).heap->d'.ok u:=by
 obtain ⟨h1,h2,h3,h4⟩:=ybw W.heap.size ds 0 k d d' h h';refine ⟨h1,h2,h3,?_,fun u hu=>?_⟩
 ·rcases h4 with ⟨e1,e2⟩|⟨x,i,e1,e2,e3,_⟩
  ·unfold SlD.val
   rw [e1,e2,h1,h2];exact .flat rfl
  ·unfold SlD.val
   rw [e1,e2,h1,h2];have hsp:x.spot=none:=by
    rcases hok d (List.mem_of_getElem? h) with ⟨h6,_⟩|⟨y,h6,hsp,_⟩
    ·rw [e1] at h6;cases h6
    ·obtain rfl:=zSi (e1.symm.trans h6)
     exact hsp
   exact .slice (s:=x.off) (.inr (.inl ⟨i,by simp [KA],e3⟩)) (by simp) (by simp [hsp])
 ·rcases hok d (List.mem_of_getElem? h) with ⟨g1,g2,g3,g4⟩|⟨y,g1,_,_,g2,g3,g4,g5,g6⟩
  ·rcases h4 with ⟨e1,e2⟩|⟨x,i,e1,_⟩
   ·exact .inl ⟨e2,by rw [h1,g2],by rw [h2,g3],by rw [h3,g4]⟩
   ·rw [g1] at e1;cases e1
  ·rcases h4 with ⟨e1,e2⟩|⟨x,i,e1,e2,_,e4⟩
   ·rw [g1] at e1;cases e1
   ·have hb:u.heap[W.heap.size+(0+i)]?=some (.cells d.ints 28 (0,d.ints.size)):=by rw [hu,Nat.zero_add,yao,e4]
    refine .inr ⟨_,e2,rfl,⟨_,_,_,hb⟩,by rw [h1,h2];exact g2,by rw [h2];exact g3,by rw [h2,h3];exact g4,fun j hj=>?_,by rw [h3];exact g6⟩;rw [h3] at hj ⊢;have e3:(⟨W.heap.size+(0+i),0,none⟩:Addr).add j=⟨W.heap.size+(0+i),j,none⟩:=by unfold Addr.add;split<;>simp_all
    rw [e3,cell_of_row u _ j d.ints 28 _ hb];simp [SlD.ints,List.getElem?_eq_getElem hj,List.getD_eq_getElem?_getD]
theorem relPs_nil (K:Cfg) (L:List Nat):RelPs K L #[] #[]:=⟨rfl,fun i v v' h=>by simp at h⟩
theorem relPs_push {K:Cfg} {L:List Nat} {cs cs':Array Value} (h:RelPs K L cs cs') {v v':Value} (hv:RelC K L v v'):RelPs K L (cs.push v) (cs'.push v'):=by
 refine ⟨by simp [h.1],fun i a b ha hb=>?_⟩;rw [Array.getElem?_push] at ha hb
 by_cases hi:i=cs.size
 ·rw [if_pos hi] at ha
  rw [if_pos (by rw [h.1];exact hi)] at hb;obtain rfl:=zSi ha;obtain rfl:=zSi hb;exact .cell hv
 ·rw [if_neg hi] at ha
  rw [if_neg (by rw [h.1];exact hi)] at hb;exact h.2 i a b ha hb
theorem yac {K:Cfg} {L:List Nat} {v:Value} (h:RelP K L (.bool true) v):v=.bool true:=by
 cases h with
 |cell h=>cases h with|flat _=>rfl
theorem yfw {K:Cfg} {L:List Nat} {v:Value} (h:RelV K L (.bool true) v):v=.bool true:=by
 cases h with
 |part h=>exact yac h
theorem law_runS {f:FuncId} {fn:Func} {W:World} (h0:0<W.heap.size) (ds:List SlD) (hok:∀ d ∈ ds,d.ok W) (mk:List SlD->Array Value) (hi:Try.prog.inits.idxOf? f=none) (hf:Tra.prog.funcs[f]?=some fn) (hS:S1 f=true) (hT:T2 f=true) (hres:y7l fn=true)
  (hmk:∀ (K:Cfg) (L:List Nat) (ds':List SlD),ds'.length=ds.length->(∀ (k:Nat) (d d':SlD),ds[k]?=some d->ds'[k]?=some d'->RelC K L d'.val d.val)->RelPs K L (mk ds') (mk ds))
  (hc:∀ (u:World) (ds':List SlD),ds'.length=ds.length->(∀ (k:Nat) (d d':SlD),ds[k]?=some d->ds'[k]?=some d'->d'.len=d.len∧d'.cap=d.cap∧d'.zs=d.zs∧d'.ok u)->Calls Tra.prog f (mk ds') u fun e _=>e=.returned (.bool true)) :
  ∃ M last o w' t',runNT Try.prog (M+1) (solo (G (Frame.enter Try.prog f (mk ds) .normal) []) W) #[]=(.ended o w',t')∧runN Try.prog M (solo (G (Frame.enter Try.prog f (mk ds) .normal) []) W)=.next last∧step Try.prog last=.ended o w' ∧
   Go.Conc.Good Try.prog (fun v' w'=>v'=.bool true∧Below W.heap.size W w') last o w' t':=by
 obtain ⟨M,last,o,w',t',h1,h2,h3,v',e0,⟨L,v,u,hv,_,hk,rfl⟩,r0⟩:=hyb_run (Rd:=fun _=>False) (al:=als ds) (L0:=(als ds).map Prod.fst) (W:=W) (u0:=ybx W ds) (args:=mk (lone W.heap.size 0 ds)) (args':=mk ds) Tra.same Tra.calm1 Tra.calmT
  (fun Post' hP'=>yfc hP' h0 (fun b h=>h.elim)) hi hf hS hT hres
  (hmk _ _ _ (y91 _ _ _) fun k d d' hd hd'=>(yd0 hok hd hd').2.2.2.1) (yii hok) (Post:=fun v _=>v=.bool true) (fun _ _ _ h=>h)
  (fun τ=>(hc (retape (ybx W ds) τ) (lone W.heap.size 0 ds) (y91 _ _ _) fun k d d' hd hd'=>let ⟨q1,q2,q3,_,q5⟩:=yd0 hok hd hd';⟨q1,q2,q3,q5 _ rfl⟩).mono fun e _ h=>⟨_,h,rfl⟩)
 refine ⟨M,last,o,w',t',h1,h2,h3,v',e0,⟨?_,yj0 hk⟩,r0⟩;split at hv
 ·exact yac hv
 ·exact yfw hv
theorem has_of {P:Program} {W:World} {base:Nat} {t e:TypeId} {x:Addr} {len cap:Nat} (hu:P.underlying t=some (.slice e)) (hv:Value.okWide P W .any base t (.slice (some x) len cap)):W.has P .any base x e cap:=by
 simp only [Value.okWide,hu,Cell.okWide,Cell.ok] at hv;exact hv.2.2
end Go.Proofs.Ytfgcijifdbgpaaa.Ca
namespace Go.Proofs.Ytfgcijifdbgpaaa.Ca
open Go.RowKit Go.Mt Go.Tr Go.ChangeShapes Go.WideShapes Go.Deep Go.Proofs.YtfgcijifdbgpaaaW.Wd
def tieC (x:P.S28):List Value:=[.int .i64 x.f0,.int .i64 x.f1,.bool x.f2]
def tiesC (l:List P.S28):List Value:=l.flatMap tieC
theorem tiesC_len:∀ l,(tiesC l).length=l.length * 3
 |[]=>rfl
 |x :: l=>by
  show (tieC x ++ tiesC l).length=_;rw [List.length_append,tiesC_len l,List.length_cons];show 3+_=_;omega
theorem tiesC_flat (l:List P.S28):∀ v ∈ tiesC l,y1m v=true:=by
 intro v hv;obtain ⟨x,_,hx⟩:=List.mem_flatMap.1 hv;simp only [tieC,List.mem_cons,List.not_mem_nil,or_false] at hx;rcases hx with rfl|rfl|rfl<;>rfl
theorem y8d:∀ (l:List P.S28) (j:Nat) (x:P.S28),l[j]?=some x->∀ (i:Nat) (u:Value),(tieC x)[i]?=some u->(tiesC l)[j * 3+i]?=some u
 |[],j,x,h,i,u,hu=>by simp at h
 |y :: l,j,x,h,i,u,hu=>by
  show (tieC y ++ tiesC l)[j * 3+i]?=some u;have h3:(tieC y).length=3:=rfl;have hi:i<3:=(List.getElem?_eq_some_iff.1 hu).1;cases j with
  |zero =>
   simp only [List.getElem?_cons_zero,Option.some.injEq] at h;subst h;rw [List.getElem?_append_left (by omega),Nat.zero_mul,Nat.zero_add];exact hu
  |succ j =>
   simp only [List.getElem?_cons_succ] at h;rw [List.getElem?_append_right (by omega),h3,show (j+1) * 3+i - 3=j * 3+i by omega];exact y8d l j x h i u hu
theorem tiesC_get (l:List P.S28) {i:Nat} (h:i<(tiesC l).length) (W:World) (a:Addr) (hc:∀ (j:Nat) (x:P.S28),l[j]?=some x->∀ (k:Nat) (u:Value),(tieC x)[k]?=some u->W.cell? (a.add (j * 3+k))=some u):W.cell? (a.add i)=some ((tiesC l).getD i undef):=by
 rw [tiesC_len] at h;have hj:i / 3<l.length:=by omega
 have hk:i % 3<(tieC l[i / 3]).length:=Nat.mod_lt _ (by decide);have e:i / 3 * 3+i % 3=i:=by omega
 have h1:=y8d l (i / 3) _ (List.getElem?_eq_getElem hj) (i % 3) _ (List.getElem?_eq_getElem hk);have h2:=hc (i / 3) _ (List.getElem?_eq_getElem hj) (i % 3) _ (List.getElem?_eq_getElem hk);rw [e] at h1 h2;rw [h2,List.getD_eq_getElem?_getD,h1];rfl
theorem ycj {α:Type}:∀ {l:List α},l.length=3->∃ a b c,l=[a,b,c]
 |[a,b,c],_=>⟨a,b,c,rfl⟩
section
variable {H:Type} {enc:TypeId × Value->H} {W:World} {base:Nat} {held:Bool}
theorem yf7 {fuel:Nat} {cs:List Value} {y:DataW H × List MemPlace} (h:DataW.trod enc Try.prog W base (fun _=>true) held fuel 28 cs=some y) (hl:cs.length=3):∃ x:P.S28,cs=tieC x:=by
 obtain ⟨ys,n,hn,hy,hlen,hyl,hf⟩:=DataW.trod_struct Try.underlying28 h;have c3:Try.prog.cellsOf 3=1:=by kernel_rfl
 have c4:Try.prog.cellsOf 4=1:=by kernel_rfl
 clear hlen hn hy h;obtain ⟨v0,v1,v2,rfl⟩:=ycj hl;obtain ⟨y0,y1,y2,rfl⟩:=ycj (l:=ys) hyl;have g0:=hf 0 { name := "A", type:=3,offset:=0,embedded:=false,tag := "", pkgPath := "", byteOffset:=0 } rfl;have g1:=hf 1 { name := "B", type:=3,offset:=1,embedded:=false,tag := "", pkgPath := "", byteOffset:=8 } rfl;have g2:=hf 2 { name := "Feud", type:=4,offset:=2,embedded:=false,tag := "", pkgPath := "", byteOffset:=16 } rfl;simp only [c3,c4,List.drop_zero,List.drop_succ_cons,List.take_succ_cons,List.take_zero,List.getElem?_cons_zero,List.getElem?_cons_succ] at g0 g1 g2;obtain ⟨n0,e0,_,_⟩:=DataW.trod_int Try.underlying3 g0;obtain ⟨n1,e1,_,_⟩:=DataW.trod_int Try.underlying3 g1;obtain ⟨b,e2,_⟩:=DataW.trod_bool Try.underlying4 g2;have f0:=(List.cons.inj e0).1;have f1:=(List.cons.inj e1).1;have f2:=(List.cons.inj e2).1;exact ⟨⟨n0,n1,b⟩,by rw [f0,f1,f2];rfl⟩
theorem open_ties {fuel:Nat} {cs:List Value} {y:DataW H × List MemPlace} (h:DataW.trod enc Try.prog W base (fun _=>true) held fuel 22 cs=some y) :
  cs=[.slice none 0 0]∨∃ (a:Addr) (len cap:Nat) (l:List P.S28),cs=[.slice (some a) len cap]∧len≤cap∧cap≤maxLen∧l.length=cap∧∀ (j:Nat) (x:P.S28),l[j]?=some x->∀ (k:Nat) (u:Value),(tieC x)[k]?=some u->W.cell? (a.add (j * 3+k))=some u:=by
 rcases open_slice Try.underlying22 h with ⟨h0,_⟩|⟨a,len,cap,m,n,D,Pl,hcs,hb,hl,hm,hmm,hx,hi⟩
 ·exact .inl h0
 refine .inr ⟨a,len,cap,?_⟩;rw [if_pos rfl] at hmm;subst hmm;have c28:Try.prog.cellsOf 28=3:=by kernel_rfl
 rw [c28] at hi;have each:∀ i,i<m->∃ x:P.S28,∀ (k:Nat) (u:Value),(tieC x)[k]?=some u->W.cell? (a.add (i * 3+k))=some u:=by
  intro i him;obtain ⟨cs',hc,ht⟩:=hi i him;obtain ⟨_,hlen,hat⟩:=World.cells?_some hc;obtain ⟨x,rfl⟩:=yf7 ht hlen;refine ⟨x,fun k u hk=>?_⟩;have hk3:k<3:=(List.getElem?_eq_some_iff.1 hk).1;rw [← Go.Deep.add_add,hat k hk3,hk]
 refine ⟨(List.range m).pmap (fun i hi=>(each i hi).choose) (fun i hi=>List.mem_range.1 hi),hcs,hl,hm,by simp,?_⟩;intro j x hj;have hjm:j<m:=by
  have:=(List.getElem?_eq_some_iff.1 hj).1;simpa using this
 have e:x=(each j hjm).choose:=by
  rw [List.getElem?_pmap] at hj;simp [hjm] at hj;exact hj.symm
 rw [e];exact (each j hjm).choose_spec
end
theorem ties_C {u:World} {d:SlD} {l:List P.S28} (h:d.ok u) (hz:d.zs=tiesC l) (hl:l.length=d.cap) (hlen:d.len≤d.cap):Kd.C P.k28 u d.a d.len (l.take d.len):=by
 rcases h with ⟨h1,h2,h3,h4⟩|⟨x,h1,h2,_,h4,h5,h6,h7,h8⟩
 ·rw [h2]
  exact ⟨by simp,by decide,fun h=>absurd h (by decide)⟩
 ·refine ⟨by rw [List.length_take];omega,by unfold maxLen at h5;omega,fun hp=>⟨x,h1,fun j p hj=>⟨tieC p,rfl,P.k28_mk u p,fun i v hv=>?_⟩⟩⟩
  have hjl:l[j]?=some p:=by
   rw [List.getElem?_take] at hj;split at hj
   ·exact hj
   ·cases hj
  have h9:=y8d l j p hjl i v hv;have hi:j * 3+i<d.zs.length:=by rw [hz];exact (List.getElem?_eq_some_iff.1 h9).1
  have h10:=h7 _ hi;rw [hz,List.getD_eq_getElem?_getD,h9] at h10;exact h10
end Go.Proofs.Ytfgcijifdbgpaaa.Ca
namespace Go.Proofs.Ytfgcijifdbgpaaa.Pl
open Go.RowKit Go.Proofs.Ytfgcijifdbgpaaa.P Go.Proofs.YtfgcijifdbgpaaaW.Wd Go.Proofs.YtfgcijifdbgpaaaW.La Go.Proofs.Ytfgcijifdbgpaaa.Ext
section
def nx (m x:Int):Int:=if x=m then m+1 else m
def st (m:Int) (l:List Int):Int:=l.foldl nx m
theorem nx_bd {m x:Int}:m≤nx m x∧nx m x≤m+1:=by
 unfold nx;split<;>omega
theorem y9y:∀ (l:List Int) (m:Int) (i:Nat),rgs m l=true->0≤m->rgs m (l.take i)=true∧rgs (st m (l.take i)) (l.drop i)=true∧m≤st m (l.take i)∧st m (l.take i)≤m+i
 |l,m,0,h,_=>by simp [st,rgs,h]
 |[],m,i+1,h,_=>by simp [st,rgs];omega
 |x :: l,m,i+1,h,h0=>by
  simp only [rgs,Bool.and_eq_true,decide_eq_true_eq] at h;obtain ⟨h1,h2,h3⟩:=h;have hb:=@nx_bd m x;have h3':rgs (nx m x) l=true:=h3;obtain ⟨a1,a2,a3,a4⟩:=y9y l (nx m x) i h3' (by omega);refine ⟨?_,a2,?_,?_⟩
  ·simp only [List.take_succ_cons,rgs,Bool.and_eq_true,decide_eq_true_eq]
   exact ⟨h1,h2,a1⟩
  ·show m≤st (nx m x) (l.take i)
   omega
  ·show st (nx m x) (l.take i)≤_
   omega
theorem st_snoc {l:List Int} {i:Nat} (h:i<l.length) (m:Int):st m (l.take (i+1))=nx (st m (l.take i)) l[i]:=by
 unfold st;rw [List.take_succ_eq_append_getElem h,List.foldl_append];rfl
def Ev (p:Nat->Prop):Prop:=∃ k0,∀ k,k0≤k->p k
theorem Ev.and {p q:Nat->Prop} (h:Ev p) (h':Ev q):Ev fun k=>p k∧q k:=by
 obtain ⟨a,ha⟩:=h;obtain ⟨b,hb⟩:=h';exact ⟨a+b,fun k hk=>⟨ha k (by omega),hb k (by omega)⟩⟩
theorem Ev.step {p q:Nat->Prop} (h:Ev p) (hs:∀ k,p k->q (k+1)):Ev q:=by
 obtain ⟨a,ha⟩:=h;refine ⟨a+1,fun k hk=>?_⟩;obtain ⟨j,rfl⟩:∃ j,k=j+1:=⟨k - 1,by omega⟩
 exact hs j (ha j (by omega))
theorem Ev.mono {p q:Nat->Prop} (h:Ev p) (hs:∀ k,p k->q k):Ev q:=by
 obtain ⟨a,ha⟩:=h;exact ⟨a,fun k hk=>hs k (ha k hk)⟩
theorem Ev.all {p:Nat->Prop} (h:∀ k,p k):Ev p:=⟨0,fun k _=>h k⟩
theorem Ev.next {q:Nat->Prop} (h:∀ k,q (k+1)):Ev q:=(Ev.all (p:=fun _=>True) fun _=>trivial).step fun k _=>h k
theorem Ev.ge {p:Nat->Prop} (n:Nat) (h:∀ k,n≤k->p k):Ev p:=⟨n,h⟩
theorem Ev.ex {p:Nat->Prop} (h:Ev p):∃ k,p k:=by
 obtain ⟨a,ha⟩:=h;exact ⟨a,ha a (zLe _)⟩
theorem y8g {α:Type} {p:List α->Prop} (h0:p []) (h1:∀ l x,p l->p (l ++ [x])) (l:List α):p l:=by
 have h:∀ r:List α,p r.reverse:=by
  intro r
  induction r with
  |nil=>exact h0
  |cons x r ih =>
   rw [List.reverse_cons];exact h1 _ _ ih
 simpa using h l.reverse
section
variable {α:Type} [DecidableEq α]
def y2v (l:List α):List α:=(y28 l).1
theorem y6y (l:List α) (x:α):y2v (l ++ [x])=met (y2v l) x:=by
 unfold y2v;rw [y5g];rfl
theorem yak (l:List α) (x:α):numL (l ++ [x])=numL l ++ [((met (y2v l) x).idxOf x:Int)]:=by
 unfold y2v numL;rw [y5g];rfl
theorem mem_met {S:List α} {x y:α}:y ∈ met S x ↔ y ∈ S∨y=x:=by
 unfold met;split
 ·rename_i h
  exact ⟨Or.inl,fun h'=>h'.elim id fun e=>e ▸ h⟩
 ·simp
theorem ycy {x:α} (l:List α):x ∈ y2v l ↔ x ∈ l:=by
 refine y8g (p:=fun l=>x ∈ y2v l ↔ x ∈ l) (by simp [y2v,y28]) (fun l y ih=>?_) l;rw [y6y,mem_met,ih];simp
theorem met_idx {S:List α} {x y:α} (h:y ∈ S):(met S x).idxOf y=S.idxOf y:=by
 unfold met;split
 ·rfl
 ·rw [List.idxOf_append,if_pos h]
theorem yie (l:List α):numL l=l.map fun x=>(((y2v l).idxOf x:Nat):Int):=by
 refine y8g (p:=fun l=>numL l=l.map fun x=>(((y2v l).idxOf x:Nat):Int)) rfl (fun l y ih=>?_) l;rw [yak,y6y,List.map_append,ih]
 congr 1
 refine List.map_congr_left fun x hx=>?_
 rw [met_idx ((ycy l).2 hx)]
theorem ycu {l:List α} {i:Nat} (h:i<l.length):(numL l).getD i 0=(((y2v l).idxOf l[i]:Nat):Int):=by
 rw [yie,List.getD_eq_getElem?_getD,List.getElem?_map,List.getElem?_eq_getElem h];rfl
theorem idx_inj {S:List α} {x y:α} (hx:x ∈ S) (h:S.idxOf x=S.idxOf y):x=y:=by
 have h1:S.idxOf x<S.length:=List.idxOf_lt_length_iff.2 hx;have h2:S.idxOf y<S.length:=h ▸ h1;rw [← List.getElem_idxOf h1,← List.getElem_idxOf h2];simp only [h]
theorem ycs {l:List α} {i j:Nat} (hi:i<l.length) (hj:j<l.length):(numL l).getD i 0=(numL l).getD j 0 ↔ l[i]=l[j]:=by
 rw [ycu hi,ycu hj];refine ⟨fun h=>idx_inj ((ycy l).2 (List.getElem_mem hi)) (by omega),fun h=>by rw [h]⟩
theorem st_app (m:Int) (l:List Int) (x:Int):st m (l ++ [x])=nx (st m l) x:=by
 unfold st;rw [List.foldl_append];rfl
theorem ybe:∀ (l:List Int) (m x:Int),rgs m l=true->0≤x->x≤st m l->rgs m (l ++ [x])=true
 |[],m,x,_,h0,h1=>by
  simp only [List.nil_append,rgs,Bool.and_eq_true,decide_eq_true_eq];exact ⟨h0,h1,trivial⟩
 |y :: l,m,x,h,h0,h1=>by
  simp only [List.cons_append,rgs,Bool.and_eq_true,decide_eq_true_eq] at h ⊢;exact ⟨h.1,h.2.1,ybe l _ x h.2.2 h0 h1⟩
theorem y8z (l:List α):rgs 0 (numL l)=true∧st 0 (numL l)=((y2v l).length:Int):=by
 refine y8g (p:=fun l=>rgs 0 (numL l)=true∧st 0 (numL l)=((y2v l).length:Int)) ⟨rfl,rfl⟩ (fun l x ih=>?_) l;obtain ⟨h1,h2⟩:=ih;rw [yak,y6y,st_app,h2]
 by_cases hx:x ∈ y2v l
 ·have h3:=List.idxOf_lt_length_iff.2 hx
  rw [met,if_pos hx,nx,if_neg (by omega)];exact ⟨ybe _ _ _ h1 (by omega) (by omega),rfl⟩
 ·have h3:(y2v l ++ [x]).idxOf x=(y2v l).length:=by
   rw [List.idxOf_append,if_neg hx];simp
  rw [met,if_neg hx,h3,nx,if_pos rfl];exact ⟨ybe _ _ _ h1 (by omega) (by omega),by simp⟩
theorem yct {l:List α} (h:l.length≤12):isP (numL l)=true:=by
 simp only [isP,Bool.and_eq_true,decide_eq_true_eq];exact ⟨by rw [y2n];exact h,(y8z l).1⟩
end
def KE (l l':List Int):Prop:=l.length=l'.length∧∀ i j,i<l.length->j<l.length->(l.getD i 0=l.getD j 0 ↔ l'.getD i 0=l'.getD j 0)
theorem KE.symm {l l':List Int} (h:KE l l'):KE l' l:=⟨h.1.symm,fun i j hi hj=>(h.2 i j (by rw [h.1];exact hi) (by rw [h.1];exact hj)).symm⟩
theorem KE.trans {l l' l'':List Int} (h:KE l l') (h':KE l' l''):KE l l'':=⟨h.1.trans h'.1,fun i j hi hj=>(h.2 i j hi hj).trans (h'.2 i j (by rw [← h.1];exact hi) (by rw [← h.1];exact hj))⟩
theorem y32 {l:List Int} {i:Nat} (h:i<l.length):l.getD i 0=l[i]:=by simp [List.getD_eq_getElem?_getD,List.getElem?_eq_getElem h]
theorem KE.num (l:List Int):KE (numL l) l:=⟨y2n l,fun i j hi hj=>by
 rw [y2n] at hi hj;rw [ycs hi hj,y32 hi,y32 hj]⟩
theorem st_occ {l:List Int} (hr:rgs 0 l=true):∀ (i:Nat) (v:Int),i≤l.length->0≤v->v<st 0 (l.take i)->∃ j,j<i∧l.getD j 0=v
 |0,v,_,h0,h1=>absurd h1 (by simp [st];omega)
 |i+1,v,hi,h0,h1=>by
  rw [st_snoc (show i<l.length by omega)] at h1
  by_cases h:v<st 0 (l.take i)
  ·obtain ⟨j,hj,e⟩:=st_occ hr i v (by omega) h0 h
   exact ⟨j,by omega,e⟩
  ·unfold nx at h1
   split at h1
   ·rename_i e
    refine ⟨i,by omega,?_⟩;rw [y32 (show i<l.length by omega),e];omega
   ·omega
theorem rgs_at {l:List Int} (hr:rgs 0 l=true) {i:Nat} (hi:i<l.length):0≤l.getD i 0∧l.getD i 0≤st 0 (l.take i):=by
 obtain ⟨_,q2,_,_⟩:=y9y l 0 i hr (Int.le_refl _);rw [List.drop_eq_getElem_cons hi] at q2;simp only [rgs,Bool.and_eq_true,decide_eq_true_eq] at q2;rw [y32 hi];exact ⟨q2.1,q2.2.1⟩
theorem yfm {l:List Int} (hr:rgs 0 l=true) {i:Nat} (hi:i<l.length) (hn:∀ j,j<i->l.getD i 0≠l.getD j 0):l.getD i 0=st 0 (l.take i):=by
 obtain ⟨h0,h1⟩:=rgs_at hr hi
 by_cases h:l.getD i 0=st 0 (l.take i)
 ·exact h
 ·obtain ⟨j,hj,e⟩:=st_occ hr i (l.getD i 0) (by omega) h0 (by omega)
  exact absurd e.symm (hn j hj)
theorem KE.eq {l l':List Int} (h:KE l l') (hr:rgs 0 l=true) (hr':rgs 0 l'=true):l=l':=by
 have hp:∀ i,i≤l.length->l.take i=l'.take i:=by
  intro i
  induction i with
  |zero=>intro _;rfl
  |succ i ih =>
   intro hi;have e:=ih (by omega);have h1:i<l.length:=by omega
   have h2:i<l'.length:=by rw [← h.1];exact h1
   have hj':∀ j,j<i->l.getD j 0=l'.getD j 0:=by
    intro j hj;have e1:=congrArg (fun t=>t.getD j 0) e;simp only [List.getD_eq_getElem?_getD,List.getElem?_take,if_pos hj] at e1;simpa [List.getD_eq_getElem?_getD] using e1
   have hv:l.getD i 0=l'.getD i 0:=by
    by_cases hx:∃ j,j<i∧l.getD i 0=l.getD j 0
    ·obtain ⟨j,hj,e1⟩:=hx
     rw [(h.2 i j h1 (by omega)).1 e1,e1,hj' j hj]
    ·rw [yfm hr h1 fun j hj e1=>hx ⟨j,hj,e1⟩,yfm hr' h2 fun j hj e1=>hx ⟨j,hj,(h.2 i j h1 (by omega)).2 e1⟩,e]
   rw [List.take_succ_eq_append_getElem h1,List.take_succ_eq_append_getElem h2,e,← y32 h1,← y32 h2,hv]
 have:=hp l.length (zLe _)
 rwa [List.take_of_length_le (zLe _),List.take_of_length_le (by rw [h.1];exact zLe _)] at this
theorem yeb {l l':List Int} (h:KE l l'):numL l=numL l' :=
 (((KE.num l).trans h).trans (KE.num l').symm).eq (y8z l).1 (y8z l').1
end
section
def To (a c:List Int) (n:Nat):Prop:=∀ i j,i<n->j<n->a.getD i 0=a.getD j 0->c.getD i 0=c.getD j 0
structure Join (a b e:List Int) (n:Nat):Prop where
 len:e.length=n
 la:To a e n
 lb:To b e n
 fin:∀ c,To a c n->To b c n->To e c n
theorem Join.ke {a b e e':List Int} {n:Nat} (h:Join a b e n) (h':Join a b e' n):KE e e' :=
 ⟨h.len.trans h'.len.symm,fun i j hi hj=>⟨fun hh=>h.fin e' h'.la h'.lb i j (h.len ▸ hi) (h.len ▸ hj) hh,fun hh=>h'.fin e h.la h.lb i j (h.len ▸ hi) (h.len ▸ hj) hh⟩⟩
theorem yhw (x y:Int) {o:List Int} {i:Nat} (h:i<o.length):(y4n x y o).getD i 0=if o.getD i 0=x then y else o.getD i 0:=by
 rw [y32 (by rw [y3c];exact h),y32 h];simp [y4n]
def Mid (a b o:List Int) (n:Nat):Prop:=o.length=n∧To a o n∧∀ c,To a c n->To b c n->To o c n
theorem yig {a b o:List Int} {n i k:Nat} (hi:i<n) (hk:k<n) (h:Mid a b o n):Mid a b (y2o b i k o) n∧To o (y2o b i k o) n∧(b.getD i 0=b.getD k 0->(y2o b i k o).getD i 0=(y2o b i k o).getD k 0):=by
 obtain ⟨hl,h1,h2⟩:=h;unfold y2o
 by_cases hs:b.getD i 0≠b.getD k 0∨o.getD i 0=o.getD k 0
 ·rw [if_pos hs]
  exact ⟨⟨hl,h1,h2⟩,fun _ _ _ _ e=>e,fun e=>hs.resolve_left (fun hn=>hn e)⟩
 ·rw [if_neg hs]
  have hb:b.getD i 0=b.getD k 0:=Classical.byContradiction fun hn=>hs (.inl hn)
  have hat:∀ x,x<n->(y4n (o.getD i 0) (o.getD k 0) o).getD x 0=if o.getD x 0=o.getD i 0 then o.getD k 0 else o.getD x 0:=fun x hx=>yhw _ _ (by omega)
  have hto:To o (y4n (o.getD i 0) (o.getD k 0) o) n:=fun x y hx hy e=>by rw [hat x hx,hat y hy,e]
  refine ⟨⟨by rw [y3c,hl],fun x y hx hy e=>hto x y hx hy (h1 x y hx hy e),fun c ca cb x y hx hy e=>?_⟩,hto,fun _=>?_⟩
  ·have hc:=h2 c ca cb
   have hik:c.getD i 0=c.getD k 0:=cb i k hi hk hb;rw [hat x hx,hat y hy] at e
   by_cases ex:o.getD x 0=o.getD i 0
   ·rw [if_pos ex] at e
    have cx:=hc x i hx hi ex
    by_cases ey:o.getD y 0=o.getD i 0
    ·rw [cx,hc y i hy hi ey]
    ·rw [if_neg ey] at e
     rw [cx,hik,hc k y hk hy e]
   ·rw [if_neg ex] at e
    by_cases ey:o.getD y 0=o.getD i 0
    ·rw [if_pos ey] at e
     rw [hc x k hx hk e,hc y i hy hi ey,hik]
    ·rw [if_neg ey] at e
     exact hc x y hx hy e
  ·rw [hat i hi,hat k hk,if_pos rfl]
   split<;>rfl
theorem mid_in {a b:List Int} {n i:Nat} (hi:i<n):∀ (k:Nat) (o:List Int),k≤n->Mid a b o n->Mid a b (y3v b i k o) n∧To o (y3v b i k o) n∧∀ q,q<k->b.getD i 0=b.getD q 0->(y3v b i k o).getD i 0=(y3v b i k o).getD q 0
 |0,o,_,h=>⟨h,fun _ _ _ _ e=>e,fun q hq=>by omega⟩
 |k+1,o,hk,h=>by
  obtain ⟨m1,m2,m3⟩:=mid_in hi k o (by omega) h;obtain ⟨s1,s2,s3⟩:=yig (b:=b) hi (show k<n by omega) m1;refine ⟨s1,fun x y hx hy e=>s2 x y hx hy (m2 x y hx hy e),fun q hq e=>?_⟩;rcases (show q<k∨q=k by omega) with h'|rfl
  ·exact s2 i q hi (by omega) (m3 q h' e)
  ·exact s3 e
theorem ygk {a b:List Int} {n:Nat}:∀ (i:Nat) (o:List Int),i≤n->Mid a b o n->Mid a b (y1t b i o) n∧To o (y1t b i o) n∧∀ p q,p<i->q<p->b.getD p 0=b.getD q 0->(y1t b i o).getD p 0=(y1t b i o).getD q 0
 |0,o,_,h=>⟨h,fun _ _ _ _ e=>e,fun p q hp=>by omega⟩
 |i+1,o,hi,h=>by
  obtain ⟨m1,m2,m3⟩:=ygk i o (by omega) h;obtain ⟨s1,s2,s3⟩:=mid_in (a:=a) (b:=b) (show i<n by omega) i _ (by omega) m1;refine ⟨s1,fun x y hx hy e=>s2 x y hx hy (m2 x y hx hy e),fun p q hp hq e=>?_⟩;rcases (show p<i∨p=i by omega) with h'|rfl
  ·exact s2 p q (by omega) (by omega) (m3 p q h' hq e)
  ·exact s3 q hq e
theorem yin {a b:List Int} (hl:a.length=b.length):Join a b (y1t b b.length a) a.length:=by
 obtain ⟨⟨h1,h2,h3⟩,_,h4⟩:=ygk (a:=a) (b:=b) (n:=a.length) b.length a (by omega) ⟨rfl,fun _ _ _ _ e=>e,fun c ca _=>ca⟩;refine ⟨h1,h2,fun i j hi hj e=>?_,h3⟩;rcases Nat.lt_trichotomy i j with h|rfl|h
 ·exact (h4 j i (by omega) h e.symm).symm
 ·rfl
 ·exact h4 i j (by omega) h e
theorem yj2 {a b e:List Int} (hl:a.length=b.length) (h:Join a b e a.length):aboveL a b=numL e:=yeb ((yin hl).ke h)
end
end Go.Proofs.Ytfgcijifdbgpaaa.Pl
namespace Go.Proofs.Ytfgcijifdbgpaaa.Gr
section
theorem y5y (p:Int × Int) (i:Nat):(y55 p).testBit i=(decide (p.1.toNat=i) || decide (p.2.toNat=i)):=by
 unfold y55;rw [Nat.testBit_or,Nat.testBit_two_pow,Nat.testBit_two_pow]
theorem y80 (s:Nat) (p:Int × Int):s &&& y55 p=0 ↔ s.testBit p.1.toNat=false∧s.testBit p.2.toNat=false:=by
  refine ⟨fun h=>⟨?_,?_⟩,fun ⟨h1,h2⟩=>?_⟩
  · have:=congrArg (Nat.testBit · p.1.toNat) h
    simp only [Nat.testBit_and,y5y,Nat.zero_testBit] at this;simpa using this
  · have:=congrArg (Nat.testBit · p.2.toNat) h
    simp only [Nat.testBit_and,y5y,Nat.zero_testBit] at this;simpa using this
  · apply Nat.eq_of_testBit_eq
    intro i;rw [Nat.testBit_and,y5y,Nat.zero_testBit]
    by_cases e1:p.1.toNat=i
    · subst e1
      rw [h1,Bool.false_and]
    · by_cases e2:p.2.toNat=i
      · subst e2
        rw [h2,Bool.false_and]
      · simp [e1,e2]
theorem y7m (s:Nat) (p:Int × Int) (i:Nat):(tieN s p).testBit i=(s.testBit i || ((s.testBit p.1.toNat || s.testBit p.2.toNat) && (decide (p.1.toNat=i) || decide (p.2.toNat=i)))):=by
 unfold tieN
 by_cases h:s &&& y55 p=0
 ·rw [if_pos h]
  obtain ⟨h1,h2⟩:=(y80 s p).1 h;simp [h1,h2]
 ·rw [if_neg h,Nat.testBit_or,y5y]
  have:(s.testBit p.1.toNat || s.testBit p.2.toNat)=true:=by
   rcases Bool.eq_false_or_eq_true (s.testBit p.1.toNat) with h1|h1
   ·rw [h1,Bool.true_or]
   ·rcases Bool.eq_false_or_eq_true (s.testBit p.2.toNat) with h2|h2
    ·rw [h2,Bool.or_true]
    ·exact absurd ((y80 s p).2 ⟨h1,h2⟩) h
  rw [this,Bool.true_and]
def Cl (T:List (Int × Int)) (s:Nat):Prop:=∀ p ∈ T,s.testBit p.1.toNat=s.testBit p.2.toNat
theorem tie_fix {s:Nat} {p:Int × Int} (h:tieN s p=s):s.testBit p.1.toNat=s.testBit p.2.toNat:=by
 have h1:=y7m s p p.1.toNat;have h2:=y7m s p p.2.toNat;rw [h] at h1 h2;cases ha:s.testBit p.1.toNat<;>cases hb:s.testBit p.2.toNat<;>simp [ha,hb] at h1 h2 ⊢
theorem yd4:∀ (T:List (Int × Int)) {s:Nat},T.foldl tieN s=s->Cl T s
 |[],_,_=>fun p hp=>by cases hp
 |p :: T,s,h=>by
  have h':T.foldl tieN (tieN s p)=s:=h;have e:tieN s p=s:=by
   apply Nat.eq_of_testBit_eq;intro i;cases hi:s.testBit i with
   |true=>exact yf8 hi
   |false =>
    cases hj:(tieN s p).testBit i with
    |false=>rfl
    |true =>
     have:=y5b T hj;rw [h',hi] at this;cases this
  rw [e] at h';intro q hq;rcases List.mem_cons.1 hq with rfl|hq
  ·exact tie_fix e
  ·exact yd4 T h' q hq
theorem ygz:∀ (T:List (Int × Int)) {s:Nat},Cl T s->T.foldl tieN s=s
 |[],_,_=>rfl
 |p :: T,s,h=>by
  have e:tieN s p=s:=by
   apply Nat.eq_of_testBit_eq;intro i;rw [y7m];have:=h p (List.mem_cons_self ..)
   by_cases e1:p.1.toNat=i
   ·subst e1
    cases ha:s.testBit p.1.toNat<;>simp [← this,ha]
   ·by_cases e2:p.2.toNat=i
    ·subst e2
     cases ha:s.testBit p.2.toNat<;>simp [this,ha]
    ·simp [e1,e2]
  show T.foldl tieN (tieN s p)=s;rw [e];exact ygz T fun q hq=>h q (List.mem_cons_of_mem _ hq)
theorem yhb {s i:Nat} (h:s<256) (hi:8≤i):s.testBit i=false:=Nat.testBit_lt_two_pow (Nat.lt_of_lt_of_le h (by rw [show (256:Nat)=2 ^ 8 from rfl];exact Nat.pow_le_pow_right (by decide) hi))
theorem ygy {T:List (Int × Int)} (hT:∀ p ∈ T,p.1<8∧p.2<8) {s:Nat} (hs:s<256) (h:T.foldl tieN s≠s):y3w s<y3w (T.foldl tieN s):=by
 have h8:=y95 T hT hs;obtain ⟨i,hi⟩:∃ i,(T.foldl tieN s).testBit i≠s.testBit i:=by
  apply Classical.byContradiction;intro hn;exact h (Nat.eq_of_testBit_eq fun i=>Classical.byContradiction fun hi=>hn ⟨i,hi⟩)
 have hf:s.testBit i=false:=by
  cases hb:s.testBit i with
  |false=>rfl
  |true=>exact absurd ((y5b T hb).trans hb.symm) hi
 have ht:(T.foldl tieN s).testBit i=true:=by
  cases hb:(T.foldl tieN s).testBit i with
  |true=>rfl
  |false=>exact absurd (hb.trans hf.symm) hi
 have hi8:i<8:=by
  apply Classical.byContradiction;intro hn;rw [yhb h8 (by omega)] at ht;cases ht
 exact y4t _ _ _ (fun x _ hx=>y5b T hx) ⟨i,List.mem_range.2 hi8,ht,hf⟩
theorem ygs {T:List (Int × Int)} (hT:∀ p ∈ T,p.1<8∧p.2<8) {s:Nat} (hs:s<256):∀ i,Cl T (y4h T i s)∨i+y3w s≤y3w (y4h T i s)
 |0=>.inr (by show 0+y3w s≤y3w s;omega)
 |i+1=>by
  show Cl T (T.foldl tieN (y4h T i s))∨i+1+y3w s≤y3w (T.foldl tieN (y4h T i s));rcases ygs hT hs i with h|h
  ·rw [ygz T h]
   exact .inl h
  ·by_cases e:T.foldl tieN (y4h T i s)=y4h T i s
   ·left
    rw [e];exact yd4 T e
   ·right
    have:=ygy hT (y93 hT i hs) e;omega
def In (n s:Nat):Prop:=∀ i,s.testBit i=true->i<n
theorem In.fold {n:Nat}:∀ (T:List (Int × Int)) {s:Nat},(∀ p ∈ T,p.1.toNat<n∧p.2.toNat<n)->In n s->In n (T.foldl tieN s)
 |[],_,_,h=>h
 |p :: T,s,hT,h=>In.fold T (fun q hq=>hT q (List.mem_cons_of_mem _ hq)) fun i hi=>by
  obtain ⟨h1,h2⟩:=hT p (List.mem_cons_self ..);rw [y7m] at hi
  by_cases e1:p.1.toNat=i
  ·omega
  ·by_cases e2:p.2.toNat=i
   ·omega
   ·exact h i (by simpa [e1,e2] using hi)
theorem In.grow {n:Nat} {T:List (Int × Int)} (hT:∀ p ∈ T,p.1.toNat<n∧p.2.toNat<n):∀ (i:Nat) {s:Nat},In n s->In n (y4h T i s)
 |0,_,h=>h
 |i+1,_,h=>In.fold T hT (In.grow hT i h)
theorem size_in {n s:Nat} (hn:n≤8) (h:In n s):y3w s≤n:=by
 have e:(List.range 8).filter (fun i=>s.testBit i)=((List.range n).filter fun i=>s.testBit i):=by
  have hd:∀ d,(List.range (n+d)).filter (fun i=>s.testBit i)=((List.range n).filter fun i=>s.testBit i):=by
   intro d
   induction d with
   |zero=>rfl
   |succ d ih =>
    rw [← Nat.add_assoc,List.range_succ,List.filter_append,ih,List.filter_cons,if_neg (fun hb=>by have:=h (n+d) hb;omega),List.filter_nil,List.append_nil]
  have:=hd (8 - n)
  rwa [show n+(8 - n)=8 by omega] at this
 unfold y3w;rw [e];exact Nat.le_trans (List.length_filter_le _ _) (by rw [List.length_range];exact zLe _)
theorem yhx {s i:Nat} (hi:i<8) (h:s.testBit i=true):1≤y3w s:=List.length_pos_of_mem (List.mem_filter.2 ⟨List.mem_range.2 hi,h⟩)
def Alike {α:Type} (f:Nat->α) (s:Nat):Prop:=∀ i j,s.testBit i=true->s.testBit j=true->f i=f j
theorem Alike.fold {α:Type} {f:Nat->α}:∀ (T:List (Int × Int)) {s:Nat},(∀ p ∈ T,f p.1.toNat=f p.2.toNat)->Alike f s->Alike f (T.foldl tieN s)
 |[],_,_,h=>h
 |p :: T,s,hT,h=>Alike.fold T (fun q hq=>hT q (List.mem_cons_of_mem _ hq)) (by
  have hp:=hT p (List.mem_cons_self ..);have key:∀ i,(tieN s p).testBit i=true->s.testBit i=true∨((s.testBit p.1.toNat=true∨s.testBit p.2.toNat=true)∧f i=f p.1.toNat):=by
   intro i hi;rw [y7m] at hi;cases hs:s.testBit i with
   |true=>exact .inl rfl
   |false =>
    rw [hs,Bool.false_or,Bool.and_eq_true,Bool.or_eq_true,Bool.or_eq_true,decide_eq_true_eq,decide_eq_true_eq] at hi;refine .inr ⟨hi.1,?_⟩;rcases hi.2 with e|e
    ·rw [← e]
    ·rw [← e,hp]
  have at1:∀ i,s.testBit i=true->(s.testBit p.1.toNat=true∨s.testBit p.2.toNat=true)->f i=f p.1.toNat:=by
   intro i hi ho;rcases ho with ho|ho
   ·exact h i _ hi ho
   ·rw [hp]
    exact h i _ hi ho
  intro i j hi hj;rcases key i hi with h1|⟨h1,e1⟩<;>rcases key j hj with h2|⟨h2,e2⟩
  ·exact h i j h1 h2
  ·rw [e2]
   exact at1 i h1 h2
  ·rw [e1]
   exact (at1 j h2 h1).symm
  ·rw [e1,e2])
theorem Alike.grow {α:Type} {f:Nat->α} {T:List (Int × Int)} (hT:∀ p ∈ T,f p.1.toNat=f p.2.toNat):∀ (i:Nat) {s:Nat},Alike f s->Alike f (y4h T i s)
 |0,_,h=>h
 |i+1,_,h=>Alike.fold T hT (Alike.grow hT i h)
def Off (s t:Nat):Prop:=∀ i,¬ (s.testBit i=true∧t.testBit i=true)
theorem Off.fold:∀ (T:List (Int × Int)) {s t:Nat},Cl T t->Off s t->Off (T.foldl tieN s) t
 |[],_,_,_,h=>h
 |p :: T,s,t,hT,h=>Off.fold T (fun q hq=>hT q (List.mem_cons_of_mem _ hq)) (by
  have hp:=hT p (List.mem_cons_self ..)
  rintro i ⟨hi,ht⟩
  rw [y7m] at hi;cases hs:s.testBit i with
  |true=>exact h i ⟨hs,ht⟩
  |false =>
   rw [hs,Bool.false_or,Bool.and_eq_true,Bool.or_eq_true,Bool.or_eq_true,decide_eq_true_eq,decide_eq_true_eq] at hi;have h1:t.testBit p.1.toNat=true:=by
    rcases hi.2 with e|e
    ·rw [e];exact ht
    ·rw [hp,e];exact ht
   have h2:t.testBit p.2.toNat=true:=hp ▸ h1;rcases hi.1 with e|e
   ·exact h _ ⟨e,h1⟩
   ·exact h _ ⟨e,h2⟩)
theorem Off.grow {T:List (Int × Int)} {t:Nat} (hT:Cl T t):∀ (i:Nat) {s:Nat},Off s t->Off (y4h T i s) t
 |0,_,h=>h
 |i+1,_,h=>Off.fold T hT (Off.grow hT i h)
end
section
variable {T:List (Int × Int)} {n:Nat}
structure Clan (T:List (Int × Int)) (n s:Nat):Prop where
 lt:s<256
 in_:In n s
 cl:Cl T s
 al:∀ f:Nat->Int,(∀ p ∈ T,f p.1.toNat=f p.2.toNat)->Alike f s
theorem ok8 (h:TiesOK (n:Int) T):∀ p ∈ T,p.1<8∧p.2<8:=fun p hp=>by have:=h.ok p hp;have:=h.n8;omega
theorem okn (h:TiesOK (n:Int) T):∀ p ∈ T,p.1.toNat<n∧p.2.toNat<n:=fun p hp=>by have:=h.ok p hp;omega
theorem In.left:∀ j,In n (y1f T n j)
 |0=>fun i hi=>by
  have hi':(2 ^ n - 1).testBit i=true:=hi;rw [Nat.testBit_two_pow_sub_one] at hi';exact zDo hi'
 |j+1=>fun i hi=>by
  have hi':(y1f T n j &&& (255 - setN T n (y1f T n j))).testBit i=true:=hi;rw [Nat.testBit_and,Bool.and_eq_true] at hi';exact In.left j i hi'.1
theorem yh7 (h:TiesOK (n:Int) T) {L:Nat} (h0:0<L) (hL:L<256) (hi:In n L):Clan T n (setN T n L):=by
 obtain ⟨_,b,hb,e,ht⟩:=y7y h0 hL;have hs:In n (lowN L):=by
  intro i h1;rw [e,Nat.testBit_two_pow] at h1;have:=zDo h1;subst this;exact hi _ ht
 have hn8:n≤8:=by have:=h.n8;omega
 have hin:=In.grow (okn h) n hs;refine ⟨y9r (ok8 h) h0 hL,hin,?_,fun f hf=>Alike.grow hf n ?_⟩
 ·rcases ygs (ok8 h) (show lowN L<256 from e ▸ y6q hb) n with h1|h1
  ·exact h1
  ·have h2:=size_in hn8 hin
   have h3:1≤y3w (lowN L):=yhx hb (by rw [e,Nat.testBit_two_pow_self]);omega
 ·intro i j h1 h2
  rw [e,Nat.testBit_two_pow] at h1 h2;rw [← zDo h1,← zDo h2]
theorem yic (h:TiesOK (n:Int) T) {L:Nat} (h0:0<L) (hL:L<256):Off (L &&& (255 - setN T n L)) (setN T n L):=by
 rintro i ⟨h1,h2⟩
 rw [Nat.testBit_and,Bool.and_eq_true] at h1;have hs:=y9r (ok8 h) (n:=n) h0 hL
 by_cases hi:i<8
 ·have:=y90 ⟨_,hs⟩ ⟨i,hi⟩
  simp only at this;rw [h1.2,h2] at this;cases this
 ·rw [yhb hs (by omega)] at h2
  cases h2
theorem yaj (h:TiesOK (n:Int) T) (hn:n≤8) {j:Nat} (hj:0<y1f T n j):∀ d,Off (y1f T n (j+1+d)) (setN T n (y1f T n j))
 |0=>yic h hj (y46 hn j)
 |d+1=>by
  rintro i ⟨h1,h2⟩
  have h1':(y1f T n (j+1+d) &&& (255 - setN T n (y1f T n (j+1+d)))).testBit i=true:=h1;rw [Nat.testBit_and,Bool.and_eq_true] at h1';exact yaj h hn hj d i ⟨h1'.1,h2⟩
theorem yib (h:TiesOK (n:Int) T) (hn:n≤8) {i j:Nat} (hij:i<j) (hi:0<y1f T n i) (hj:0<y1f T n j):Off (setN T n (y1f T n j)) (setN T n (y1f T n i)):=by
 obtain ⟨d,rfl⟩:∃ d,j=i+1+d:=⟨j - (i+1),by omega⟩
 refine Off.grow (yh7 h hi (y46 hn i) (In.left i)).cl n ?_;obtain ⟨_,b,hb,e,ht⟩:=y7y hj (y46 hn _)
 rintro x ⟨h1,h2⟩
 rw [e,Nat.testBit_two_pow] at h1;have:=zDo h1;subst this;exact yaj h hn hi d _ ⟨ht,h2⟩
theorem yd5 (ht:TiesOK (n:Int) T) (hn:n≤8) {q:Nat} (hq:q<n):∀ j,(y1f T n j).testBit q=true∨∃ i,i<j∧(setN T n (y1f T n i)).testBit q=true
 |0=>.inl (by
  show (2 ^ n - 1).testBit q=true;rw [Nat.testBit_two_pow_sub_one];exact zDt hq)
 |j+1=>by
  rcases yd5 ht hn hq j with h|⟨i,hi,h⟩
  ·cases hs:(setN T n (y1f T n j)).testBit q with
   |true=>exact .inr ⟨j,by omega,hs⟩
   |false =>
    left;show (y1f T n j &&& (255 - setN T n (y1f T n j))).testBit q=true;rw [Nat.testBit_and,h,Bool.true_and];have h0:0<y1f T n j:=by
     rcases Nat.eq_zero_or_pos (y1f T n j) with e|e
     ·rw [e,Nat.zero_testBit] at h
      cases h
     ·exact e
    have:=y90 ⟨_,y9r (ok8 ht) (n:=n) h0 (y46 hn j)⟩ ⟨q,by omega⟩;simp only at this;rw [this,hs];rfl
  ·exact .inr ⟨i,by omega,h⟩
structure Clans (T:List (Int × Int)) (n:Nat) (G:List Int):Prop where
 few:G.length≤8
 each:∀ s ∈ G,∃ S:Nat,s=(S:Int)∧Clan T n S
 off:G.Pairwise fun s t=>Off s.toNat t.toNat
 cover:∀ q,q<n->∃ s ∈ G,s.toNat.testBit q=true
theorem done_at (h:TiesOK (n:Int) T) (hn:n≤8):y1f T n (y3q T n)=0∧(∀ i,i<y3q T n->0<y1f T n i)∧y3q T n≤8:=by
 obtain ⟨j,h1,h2⟩:∃ j,y1f T n j=0∧∀ i,i<j->0<y1f T n i:=by
  apply Classical.byContradiction;intro hno;have hall:∀ j,∀ i,i<j->0<y1f T n i:=by
   intro j
   induction j with
   |zero=>exact fun i hi=>absurd hi (by omega)
   |succ j ih =>
    intro i hi
    by_cases hij:i<j
    ·exact ih i hij
    ·have:i=j:=by omega
     subst this
     by_cases h0:y1f T n i=0
     ·exact absurd ⟨i,h0,ih⟩ hno
     ·omega
  have:=y3f (ok8 h) hn 9 (hall 9);omega
 rw [yh4 (ok8 h) hn h2 h1];have:=y3f (ok8 h) hn j h2;exact ⟨h1,h2,by omega⟩
theorem ycq {s t:Nat} (h:Off s t):Off t s:=fun i ⟨a,b⟩=>h i ⟨b,a⟩
theorem clans_are (h:TiesOK (n:Int) T):Clans T n (clansL T n):=by
 have hn:n≤8:=by have:=h.n8;omega
 obtain ⟨h0,hp,h8⟩:=done_at h hn;have hl:(y58 T n (y3q T n)).length≤12:=by rw [y5z];omega
 have hperm:=(y9n hl).2;have hmem:∀ s,s ∈ clansL T n ↔ ∃ i,i<y3q T n∧s=(setN T n (y1f T n i):Int):=by
  intro s;unfold clansL;rw [hperm.mem_iff];unfold y58;rw [List.mem_map];exact ⟨fun ⟨i,hi,e⟩=>⟨i,List.mem_range.1 hi,e.symm⟩,fun ⟨i,hi,e⟩=>⟨i,List.mem_range.2 hi,e.symm⟩⟩
 refine ⟨?_,fun s hs=>?_,?_,fun q hq=>?_⟩
 ·show (y8f _).length≤8
  rw [hperm.length_eq,y5z];exact h8
 ·obtain ⟨i,hi,rfl⟩:=(hmem s).1 hs
  exact ⟨_,rfl,yh7 h (hp i hi) (y46 hn i) (In.left i)⟩
 ·show (y8f _).Pairwise _
  rw [hperm.pairwise_iff (fun h=>ycq h)];unfold y58;rw [List.pairwise_map];refine List.Pairwise.imp_of_mem (fun {a b} ha hb hab=>?_) List.pairwise_lt_range;exact ycq (yib h hn hab (hp a (List.mem_range.1 ha)) (hp b (List.mem_range.1 hb)))
 ·rcases yd5 (T:=T) h hn hq (y3q T n) with h1|⟨i,hi,h1⟩
  ·rw [h0,Nat.zero_testBit] at h1
   cases h1
  ·exact ⟨_,(hmem _).2 ⟨i,hi,rfl⟩,h1⟩
end
end Go.Proofs.Ytfgcijifdbgpaaa.Gr
namespace Go.Proofs.Ytfgcijifdbgpaaa.Pl
open Go.RowKit Go.Proofs.Ytfgcijifdbgpaaa.P Go.Proofs.YtfgcijifdbgpaaaW.Wd Go.Proofs.YtfgcijifdbgpaaaW.La Go.Proofs.YtfgcijifdbgpaaaW.Mo Go.Proofs.Ytfgcijifdbgpaaa.Ext
open Go.Proofs.Ytfgcijifdbgpaaa.Gr (Clan TiesOK clansL Off)
theorem shr_bit:∀ (s:_root_.Fin 256) (j:_root_.Fin 8),(Int.tmod (shr .i64 (s.val:Int) (j.val:Int)) 2=1) ↔ s.val.testBit j.val=true:=by decide +kernel
def Inv (G:List Int) (n i j:Nat) (p:List Int):Prop:=p.length=n∧∀ q,q<n->∀ c (hc:c<G.length),(c<i∨(c=i∧q<j))->G[c].toNat.testBit q=true->p.getD q 0=(c:Int)
def Goal (G:List Int) (n:Nat) (X:Nat->Option (List Int)):Prop:=∃ p,Inv G n G.length 0 p∧Ev fun k=>X k=some p
theorem Goal.step {G:List Int} {n:Nat} {X Y:Nat->Option (List Int)} (h:Goal G n X) (hs:∀ k,Y (k+1)=X k):Goal G n Y:=by
 obtain ⟨p,h1,h2⟩:=h;exact ⟨p,h1,h2.step fun k hk=>(hs k).trans hk⟩
theorem ygu {e:List Int} {i x:Nat} {v:Int} (hi:i<e.length):(e.set i v).getD x 0=if x=i then v else e.getD x 0:=by
 rw [List.getD_eq_getElem?_getD,List.getElem?_set]
 by_cases h:i=x
 ·subst h
  simp [hi]
 ·rw [if_neg h,if_neg (fun e=>h e.symm),List.getD_eq_getElem?_getD]
section
variable {T:List (Int × Int)} {n:Nat} {G:List Int}
theorem ybs (hG:Gr.Clans T n G) (hn:n≤8) {i:Nat} (hi:i<G.length) (hk:∀ p,Inv G n (i+1) 0 p->Goal G n fun k=>drovewaytop_parting.l0 k n G p ((i+1:Nat):Int)) :
  ∀ d j p,j+d=n->Inv G n i j p->Goal G n fun k=>drovewaytop_parting.l1 k n G p i j
 |0,j,p,hd,hp=>by
  have hf:=hG.few;refine (hk p ⟨hp.1,fun q hq c hc hcc hb=>hp.2 q hq c hc (by omega) hb⟩).step fun k=>?_
  rw [drovewaytop_parting.l1,if_neg (by omega),w64 (by omega) (by omega)];rfl
 |d+1,j,p,hd,hp=>by
  have hf:=hG.few;obtain ⟨S,hS,hc⟩:=hG.each _ (List.getElem_mem hi);have hrd:rd G (i:Int)=(S:Int):=by rw [rd_at hi,hS]
  have hw:wrap64 ((j:Int)+1)=((j+1:Nat):Int):=by rw [w64 (by omega) (by omega)];rfl
  have hb:=shr_bit ⟨S,hc.lt⟩ ⟨j,by omega⟩;simp only at hb
  by_cases ht:S.testBit j=true
  ·refine (ybs hG hn hi hk d (j+1) (p.set j i) (by omega) ⟨by rw [List.length_set];exact hp.1,fun q hq c hcl hcc hbit=>?_⟩).step fun k=>?_
   ·rw [ygu (by rw [hp.1];omega)]
    by_cases hqj:q=j
    ·rw [if_pos hqj]
     subst hqj
     by_cases hci:c=i
     ·rw [hci]
     ·exfalso
      have:=List.pairwise_iff_getElem.1 hG.off c i hcl hi (by omega);rw [hS] at this;exact this q ⟨hbit,ht⟩
    ·rw [if_neg hqj]
     exact hp.2 q hq c hcl (by omega) hbit
   ·rw [drovewaytop_parting.l1,if_pos (by omega),if_pos (by omega),if_pos (by omega),if_pos (by omega),hrd,if_pos (hb.2 ht),if_pos (by rw [hp.1];omega),hw]
    rfl
  ·refine (ybs hG hn hi hk d (j+1) p (by omega) ⟨hp.1,fun q hq c hcl hcc hbit=>?_⟩).step fun k=>?_
   ·by_cases hqj:c=i∧q=j
    ·obtain ⟨rfl,rfl⟩:=hqj
     rw [hS] at hbit;exact absurd hbit ht
    ·exact hp.2 q hq c hcl (by omega) hbit
   ·rw [drovewaytop_parting.l1,if_pos (by omega),if_pos (by omega),if_pos (by omega),if_pos (by omega),hrd,if_neg (fun h=>ht (hb.1 h)),hw]
theorem yg5 (hG:Gr.Clans T n G) (hn:n≤8):∀ d i p,i+d=G.length->Inv G n i 0 p->Goal G n fun k=>drovewaytop_parting.l0 k n G p i
 |0,i,p,hd,hp=>by
  have:i=G.length:=by omega
  subst this;exact ⟨p,hp,Ev.next fun k=>by
   show drovewaytop_parting.l0 (k+1) n G p ((G.length:Nat):Int)=some p;rw [drovewaytop_parting.l0,if_neg (by omega)]⟩
 |d+1,i,p,hd,hp=>by
  refine (ybs hG hn (show i<G.length by omega) (fun p' hp'=>yg5 hG hn d (i+1) p' (by omega) hp') n 0 p (by omega) hp).step fun k=>?_
  rw [drovewaytop_parting.l0,if_pos (by omega)];rfl
structure yj4 (T:List (Int × Int)) (n:Nat) (p:List Int):Prop where
 len:p.length=n
 bd:∀ x ∈ p,0≤x∧x≤8
 resp:∀ t ∈ T,p.getD t.1.toNat 0=p.getD t.2.toNat 0
 fin:∀ f:Nat->Int,(∀ t ∈ T,f t.1.toNat=f t.2.toNat)->∀ i j,i<n->j<n->p.getD i 0=p.getD j 0->f i=f j
theorem y8t (hT:TiesOK (n:Int) T):∃ p,yj4 T n p∧Ev fun k=>drovewaytop_parting.f k n (clansL T n)=some p:=by
 have hG:=Gr.clans_are hT;have hn:n≤8:=by have:=hT.n8;omega
 obtain ⟨p,hp,hev⟩:=yg5 hG hn _ 0 (List.replicate n 0) (Nat.zero_add _) ⟨by simp,fun q _ c _ h=>absurd h (by omega)⟩;have hat:∀ q,q<n->∃ c,∃ hc:c<(clansL T n).length,(clansL T n)[c].toNat.testBit q=true∧p.getD q 0=(c:Int):=by
  intro q hq;obtain ⟨s,hs,hb⟩:=hG.cover q hq;obtain ⟨c,hc,rfl⟩:=List.mem_iff_getElem.1 hs;exact ⟨c,hc,hb,hp.2 q hq c hc (.inl hc) hb⟩
 refine ⟨p,⟨hp.1,fun x hx=>?_,fun t ht=>?_,fun f hf i j hi hj e=>?_⟩,hev.mono fun k hk=>?_⟩
 ·obtain ⟨q,hq,rfl⟩:=List.mem_iff_getElem.1 hx
  obtain ⟨c,hc,_,e⟩:=hat q (by rw [← hp.1];exact hq);rw [y32 hq] at e;have:=hG.few;omega
 ·obtain ⟨h1,h2⟩:=Gr.okn hT t ht
  obtain ⟨c,hc,hb,e⟩:=hat _ h1;obtain ⟨S,hS,hcl⟩:=hG.each _ (List.getElem_mem hc);have hb2:(clansL T n)[c].toNat.testBit t.2.toNat=true:=by
   rw [hS] at hb ⊢;exact (hcl.cl t ht) ▸ hb
  rw [e,hp.2 _ h2 c hc (.inl hc) hb2]
 ·obtain ⟨c,hc,hb,e1⟩:=hat i hi
  obtain ⟨c',hc',hb',e2⟩:=hat j hj;have:c=c':=by omega
  subst this;obtain ⟨S,hS,hcl⟩:=hG.each _ (List.getElem_mem hc);rw [hS] at hb hb';exact hcl.al f hf i j hb hb'
 ·unfold drovewaytop_parting.f
  rw [if_pos (by omega),if_pos (by simp;omega)];exact hk
theorem num_at {l:List Int} {i:Nat} (h:i<l.length) (j:Nat) (hj:j<l.length):(numL l).getD i 0=(numL l).getD j 0 ↔ l.getD i 0=l.getD j 0:=by
 rw [ycs h hj,y32 h,y32 hj]
theorem yeh {A B C:List (Int × Int)} {pa pb pc:List Int} (ha:yj4 A n pa) (hb:yj4 B n pb) (hc:yj4 C n pc) (hC:∀ t ∈ C,t.1.toNat<n∧t.2.toNat<n) (hA:∀ t ∈ A,t ∈ C) (hB:∀ t ∈ B,t ∈ C) (hu:∀ t ∈ C,t ∈ A∨t ∈ B):aboveL (numL pa) (numL pb)=numL pc:=by
 have la:(numL pa).length=n:=by rw [y2n,ha.len]
 have lb:(numL pb).length=n:=by rw [y2n,hb.len]
 have ka:∀ i j,i<n->j<n->((numL pa).getD i 0=(numL pa).getD j 0 ↔ pa.getD i 0=pa.getD j 0):=fun i j hi hj=>num_at (by rw [ha.len];exact hi) j (by rw [ha.len];exact hj)
 have kb:∀ i j,i<n->j<n->((numL pb).getD i 0=(numL pb).getD j 0 ↔ pb.getD i 0=pb.getD j 0):=fun i j hi hj=>num_at (by rw [hb.len];exact hi) j (by rw [hb.len];exact hj)
 refine yj2 (la.trans lb.symm) ⟨hc.len.trans la.symm,?_,?_,?_⟩
 ·rw [la]
  exact fun i j hi hj e=>ha.fin (fun q=>pc.getD q 0) (fun t ht=>hc.resp t (hA t ht)) i j hi hj ((ka i j hi hj).1 e)
 ·rw [la]
  exact fun i j hi hj e=>hb.fin (fun q=>pc.getD q 0) (fun t ht=>hc.resp t (hB t ht)) i j hi hj ((kb i j hi hj).1 e)
 ·rw [la]
  refine fun c ca cb i j hi hj e=>hc.fin (fun q=>c.getD q 0) (fun t ht=>?_) i j hi hj e
  obtain ⟨h1,h2⟩:=hC t ht;rcases hu t ht with h|h
  ·exact ca _ _ h1 h2 ((ka _ _ h1 h2).2 (ha.resp t h))
  ·exact cb _ _ h1 h2 ((kb _ _ h1 h2).2 (hb.resp t h))
end
end Go.Proofs.Ytfgcijifdbgpaaa.Pl
namespace Go.Proofs.Ytfgcijifdbgpaaa.P
theorem yag:drovewaytop_parted.f 300=some true:=by decide +kernel
end Go.Proofs.Ytfgcijifdbgpaaa.P
namespace Go.Proofs.Ytfgcijifdbgpaaa.Pl
open Go.RowKit Go.Proofs.Ytfgcijifdbgpaaa.P Go.Proofs.YtfgcijifdbgpaaaW.Wd Go.Proofs.YtfgcijifdbgpaaaW.La Go.Proofs.YtfgcijifdbgpaaaW.Mo Go.Proofs.Ytfgcijifdbgpaaa.Ext
open Go.Proofs.Ytfgcijifdbgpaaa.Gr (TiesOK clansL)
theorem parted_ev:Ev fun k=>drovewaytop_parted.f k=some true:=by
 refine ⟨300,fun k hk=>?_⟩;obtain ⟨d,rfl⟩:∃ d,k=300+d:=⟨k - 300,by omega⟩
 induction d with
 |zero=>exact yag
 |succ d ih=>exact drovewaytop_parted.mono _ _ (ih (by omega))
theorem y89 (l:List Int) (hn:l.length≤40):∀ (d i:Nat) (s:Int),i+d=l.length->∃ r,Ev fun k=>whole0.l0 k l s (i:Int)=some r
 |0,i,s,hd=>⟨s,Ev.next fun k=>by
  unfold whole0.l0;rw [if_neg (by omega)]⟩
 |d+1,i,s,hd=>by
  obtain ⟨r,h⟩:=y89 l hn d (i+1) (wrap64 (s+rd l (i:Int))) (by omega);refine ⟨r,h.step fun k hk=>?_⟩;unfold whole0.l0;rw [if_pos (by omega),if_pos (by omega),w64 (x:=(i:Int)+1) (by omega) (by omega),show ((i:Int)+1)=((i+1:Nat):Int) by omega];exact hk
theorem Meet_ev {a b:List Int} (ha:a.length≤40) (hb:b.length≤40):Ev fun k=>mobs_Meet.f k a b=some (if y53 a b=0 then (numL (a.zip b),aboveL a b,0) else ([],[],y53 a b)):=by
 obtain ⟨r1,h1⟩:=y89 a ha a.length 0 0 (by omega);obtain ⟨r2,h2⟩:=y89 b hb b.length 0 0 (by omega);refine ((h1.and h2).and (Ev.ge 30 fun k hk=>hk)).mono fun k ⟨⟨q1,q2⟩,hk⟩=>?_
 have q1':sync_WaitGroup_Add.f k a=some r1:=q1;have q2':sync_WaitGroup_Add.f k b=some r2:=q2;unfold mobs_Meet.f;rw [q1',q2',ycm a b hk];simp only [Option.bind_some]
 by_cases h:y53 a b=0
 ·obtain ⟨pa,pb,hl⟩:=y4d h
  have hn:=y4s pa;rw [if_pos h,if_pos h,yhd pa pb hl (by omega),yhh pa pb hl];simp only [Option.bind_some,List.nil_append];rw [if_pos (by rw [yav hl];simp;omega),if_pos (by rw [yax];simp;omega)]
 ·rw [if_neg h,if_neg h]
def tieP (x:S28):Int × Int:=(x.f0,x.f1)
def GoodT (n:Int) (x:S28):Prop:=0≤x.f0∧x.f0<x.f1∧x.f1<n
def y2y (n:Int) (l:List S28) (i:Nat):Prop:=∀ q (hq:q<l.length),i≤q->GoodT n l[q]∧∀ j (hj:j<q),tieP l[j]≠tieP l[q]
def Says (Q:Prop) (X:Nat->Option Int):Prop:=∃ e,(e=0->Q)∧Ev fun k=>X k=some e
theorem Says.step {Q Q':Prop} {X Y:Nat->Option Int} (h:Says Q X) (hQ:Q->Q') (hs:∀ k,Y (k+1)=X k):Says Q' Y:=by
 obtain ⟨e,h1,h2⟩:=h;exact ⟨e,fun h0=>hQ (h1 h0),h2.step fun k hk=>(hs k).trans hk⟩
theorem Says.two {Q:Prop} {Y:Nat->Option Int} {e:Int} (he:e≠0) (hs:∀ k,Y (k+1)=some e):Says Q Y:=⟨e,fun h=>absurd h he,Ev.next hs⟩
theorem y5s {l:List S28} {i:Nat} (h:i<l.length):y0c l (i:Int)=l[i]:=by simp [y0c,List.getD_eq_getElem?_getD,List.getElem?_eq_getElem h]
theorem yaz {n:Int} {l:List S28} (hl:l.length≤20) {i:Nat} (hi:i<l.length) (hg:GoodT n l[i]) (hk:Says (y2y n l (i+1)) fun k=>drovewayref09_Ties.l0 k n l ((i+1:Nat):Int)) :
  ∀ d j,j+d=i->(∀ q (hq:q<l.length),q<j->tieP l[q]≠tieP l[i])->Says (y2y n l i) fun k=>drovewayref09_Ties.l1 k n l i j
 |0,j,hd,hne=>by
  have hj:j=i:=by omega
  subst hj;refine hk.step (fun h q hq hiq=>?_) fun k=>?_
  ·by_cases e:q=j
   ·subst e
    exact ⟨hg,fun x hx=>hne x (by omega) hx⟩
   ·exact h q hq (by omega)
  ·rw [drovewayref09_Ties.l1,if_neg (by omega),w64 (by omega) (by omega)]
   rfl
 |d+1,j,hd,hne=>by
  have hjl:j<l.length:=by omega
  have hw:wrap64 ((j:Int)+1)=((j+1:Nat):Int):=by rw [w64 (by omega) (by omega)];rfl
  by_cases h0:l[j].f0=l[i].f0
  ·by_cases h1:l[j].f1=l[i].f1
   ·refine Says.two (e:=2) (by decide) fun k=>?_
    rw [drovewayref09_Ties.l1,if_pos (by omega),if_pos (by omega),if_pos (by omega),if_pos (by omega),if_pos (by omega),y5s hjl,y5s hi,if_pos h0,if_pos h1]
   ·refine (yaz hl hi hg hk d (j+1) (by omega) (fun q hql hq=>?_)).step (fun h=>h) fun k=>?_
    ·by_cases e:q=j
     ·subst e
      exact fun h=>h1 (congrArg Prod.snd h)
     ·exact hne q hql (by omega)
    ·rw [drovewayref09_Ties.l1,if_pos (by omega),if_pos (by omega),if_pos (by omega),if_pos (by omega),if_pos (by omega),y5s hjl,y5s hi,if_pos h0,if_neg h1,hw]
  ·refine (yaz hl hi hg hk d (j+1) (by omega) (fun q hql hq=>?_)).step (fun h=>h) fun k=>?_
   ·by_cases e:q=j
    ·subst e
     exact fun h=>h0 (congrArg Prod.fst h)
    ·exact hne q hql (by omega)
   ·rw [drovewayref09_Ties.l1,if_pos (by omega),if_pos (by omega),if_pos (by omega),if_pos (by omega),if_pos (by omega),y5s hjl,y5s hi,if_neg h0,hw]
theorem yf6 {n:Int} {l:List S28} (hl:l.length≤20):∀ d i,i+d=l.length->Says (y2y n l i) fun k=>drovewayref09_Ties.l0 k n l i
 |0,i,hd=>⟨0,fun _ q hq hiq=>absurd hq (by omega),Ev.next fun k=>by
  show drovewayref09_Ties.l0 (k+1) n l i=some 0;rw [drovewayref09_Ties.l0,if_neg (by omega)]⟩
 |d+1,i,hd=>by
  have hi:i<l.length:=by omega
  have hrd:=y5s hi;have hbad:∀ Q:Prop,Says Q fun k=>drovewayref09_Ties.j2 k n l i true:=fun Q=>Says.two (e:=2) (by decide) fun k=>by rw [drovewayref09_Ties.j2,if_pos rfl]
  by_cases h0:l[i].f0<0
  ·refine (hbad _).step (fun h=>h) fun k=>?_
   rw [drovewayref09_Ties.l0,if_pos (by omega),if_pos (by omega),hrd,if_pos h0]
  by_cases h1:l[i].f0 ≥ l[i].f1
  ·refine (hbad _).step (fun h=>h) fun k=>?_
   rw [drovewayref09_Ties.l0,if_pos (by omega),if_pos (by omega),hrd,if_neg h0,if_pos h1]
  by_cases h2:l[i].f1 ≥ n
  ·refine (hbad _).step (fun h=>h) fun k=>?_
   rw [drovewayref09_Ties.l0,if_pos (by omega),if_pos (by omega),hrd,if_neg h0,if_neg h1,zDt h2]
  ·have hrec:=yaz (n:=n) hl hi ⟨by omega,by omega,by omega⟩ (yf6 hl d (i+1) (by omega)) i 0 (by omega) (fun q _ hq=>absurd hq (by omega))
   have h3:Says (y2y n l i) fun k=>drovewayref09_Ties.j2 k n l i false:=hrec.step (fun h=>h) fun k=>by
    rw [drovewayref09_Ties.j2,if_neg (by decide)];rfl
   refine h3.step (fun h=>h) fun k=>?_
   rw [drovewayref09_Ties.l0,if_pos (by omega),if_pos (by omega),hrd,if_neg h0,if_neg h1,zDf h2]
theorem ties_ev (n:Int) (l:List S28):Says ((1≤n∧n≤8∧l.length≤20)∧y2y n l 0) fun k=>drovewayref09_Ties.f k n l:=by
 have hbad:∀ Q:Prop,Says Q fun k=>drovewayref09_Ties.j0 k n l true:=fun Q=>Says.two (e:=2) (by decide) fun k=>by rw [drovewayref09_Ties.j0,if_pos rfl]
 by_cases h1:n<1
 ·obtain ⟨e,he,hv⟩:=hbad ((1≤n∧n≤8∧l.length≤20)∧y2y n l 0)
  exact ⟨e,he,hv.mono fun k hk=>show drovewayref09_Ties.f k n l=some e from by unfold drovewayref09_Ties.f;rw [if_pos h1];exact hk⟩
 by_cases h2:n > 8
 ·obtain ⟨e,he,hv⟩:=hbad ((1≤n∧n≤8∧l.length≤20)∧y2y n l 0)
  exact ⟨e,he,hv.mono fun k hk=>show drovewayref09_Ties.f k n l=some e from by unfold drovewayref09_Ties.f;rw [if_neg h1,zDt h2];exact hk⟩
 have key:Says ((1≤n∧n≤8∧l.length≤20)∧y2y n l 0) fun k=>drovewayref09_Ties.j0 k n l false:=by
  by_cases h3:(l.length:Int) > 20
  ·refine Says.two (e:=3) (by decide) fun k=>?_
   rw [drovewayref09_Ties.j0,if_neg (by decide),if_pos h3]
  ·refine (yf6 (n:=n) (l:=l) (by omega) l.length 0 (Nat.zero_add _)).step (fun h=>⟨⟨by omega,by omega,by omega⟩,h⟩) fun k=>?_
   rw [drovewayref09_Ties.j0,if_neg (by decide),if_neg h3];rfl
 obtain ⟨e,he,hv⟩:=key;exact ⟨e,he,hv.mono fun k hk=>show drovewayref09_Ties.f k n l=some e from by unfold drovewayref09_Ties.f;rw [if_neg h1,zDf h2];exact hk⟩
def clr (x:S28):S28:=⟨x.f0,x.f1,false⟩
theorem ok_of {n:Int} {l:List S28} (h:(1≤n∧n≤8∧l.length≤20)∧y2y n l 0):OkTies n (l.map clr):=by
 have e:y2p (l.map clr)=l.map tieP:=by
  unfold y2p;rw [List.map_map];rfl
 refine ⟨⟨h.1.1,h.1.2.1,by rw [List.length_map];exact h.1.2.2⟩,fun p hp=>?_,?_⟩
 ·obtain ⟨q,hq,rfl⟩:=List.mem_map.1 hp
  obtain ⟨j,hj,rfl⟩:=List.mem_iff_getElem.1 hq;exact ⟨rfl,(h.2 j hj (Nat.zero_le _)).1⟩
 ·rw [e]
  refine List.pairwise_iff_getElem.2 fun i j hi hj hij=>?_
  rw [List.length_map] at hi hj;rw [List.getElem_map,List.getElem_map];exact (h.2 j hj (Nat.zero_le _)).2 i hij
theorem _root_.Go.Proofs.Ytfgcijifdbgpaaa.P.OkTies.sub {n:Int} {A C:List S28} (h:OkTies n C) (hs:A.Sublist C):OkTies n A :=
 ⟨⟨h.1.1,h.1.2.1,Nat.le_trans hs.length_le h.1.2.2⟩,fun p hp=>h.2.1 p (hs.subset hp),List.Sublist.nodup (List.Sublist.map _ hs) h.2.2⟩
theorem y8y {p:List Int} (h:p.length≤12) (hb:∀ x ∈ p,0≤x∧x≤8):mobs_Number.f p=some (numL p,0):=by
 unfold mobs_Number.f mobs_number_int.f;rw [if_neg (by omega),if_pos ⟨fun x hx=>by have:=hb x hx;unfold In64;omega,by omega⟩];rfl
theorem yfk {n:Nat} (hn:n≤8) {p:List Int} (hp:p.length=n):∀ d i,i+d=n->Ev fun k=>drovewaytop_TopJoined.l1 k n p p i=some true
 |0,i,hd=>parted_ev.step fun k hk=>by
  rw [drovewaytop_TopJoined.l1,if_neg (by omega),hk];rfl
 |d+1,i,hd=>(yfk hn hp d (i+1) (by omega)).step fun k hk=>by
  rw [drovewaytop_TopJoined.l1,if_pos (by omega),if_pos (by omega),if_pos (by omega),if_pos (by omega),if_pos rfl,w64 (by omega) (by omega)];exact hk
theorem j1_ev {n:Nat} {A B C:List S28} (hC:OkTies (n:Int) C) (hA:A.Sublist C) (hB:B.Sublist C) (hu:∀ p ∈ C,p ∈ A∨p ∈ B) :
  Ev fun k=>drovewaytop_TopJoined.j1 k n (clansL (y2p C) n) (clansL (y2p A) n) (clansL (y2p B) n) false=some true:=by
 have hn:n≤8:=by have:=hC.1.2.1;omega
 obtain ⟨pc,qc,ec⟩:=y8t hC.ties;obtain ⟨pa,qa,ea⟩:=y8t (hC.sub hA).ties;obtain ⟨pb,qb,eb⟩:=y8t (hC.sub hB).ties;have hmem:∀ {X:List S28} {t},t ∈ y2p X ↔ ∃ p ∈ X,(p.f0,p.f1)=t:=by
  intro X t;unfold y2p;exact List.mem_map
 have hj:=yeh qa qb qc (Gr.okn hC.ties) (fun t ht=>by
   obtain ⟨p,hp,e⟩:=hmem.1 ht;exact hmem.2 ⟨p,hA.subset hp,e⟩) (fun t ht=>by
   obtain ⟨p,hp,e⟩:=hmem.1 ht;exact hmem.2 ⟨p,hB.subset hp,e⟩) (fun t ht=>by
   obtain ⟨p,hp,e⟩:=hmem.1 ht;exact (hu p hp).imp (fun h=>hmem.2 ⟨p,h,e⟩) (fun h=>hmem.2 ⟨p,h,e⟩))
 have la:(numL pa).length=n:=by rw [y2n,qa.len]
 have lb:(numL pb).length=n:=by rw [y2n,qb.len]
 have lc:(numL pc).length=n:=by rw [y2n,qc.len]
 have hz:y53 (numL pa) (numL pb)=0:=by
  unfold y53;rw [if_pos (by omega),if_pos (yct (by rw [qa.len];omega)),if_pos (by omega),if_pos (yct (by rw [qb.len];omega)),if_pos (by omega)]
 have hm:=Meet_ev (a:=numL pa) (b:=numL pb) (by omega) (by omega);rw [if_pos hz,hj] at hm;have hl:Ev fun k=>drovewaytop_TopJoined.j2 k n (numL pc) (numL pc) false=some true:=(yfk hn lc n 0 (by omega)).step fun k hk=>by
  rw [drovewaytop_TopJoined.j2,if_neg (by decide)];exact hk
 refine ((((ec.and ea).and eb).and hm).and hl).step fun k ⟨⟨⟨⟨h1,h2⟩,h3⟩,h4⟩,h5⟩=>?_
 rw [drovewaytop_TopJoined.j1,if_neg (by decide),h1,h2,h3];simp only [Option.bind_some];rw [y8y (by rw [qc.len];omega) qc.bd,y8y (by rw [qa.len];omega) qa.bd,y8y (by rw [qb.len];omega) qb.bd];simp only [Option.bind_some];rw [h4];simp only [Option.bind_some,if_true];rw [if_pos (by omega),lc];have e0:(((n:Nat):Int) != ((n:Nat):Int))=false:=by simp
 rw [e0];exact h5
theorem l0_ev {n:Nat} {l:List S28} {w:Int} (hC:OkTies (n:Int) (l.map clr)):∀ d i A B,i+d=l.length->A.Sublist ((l.take i).map clr)->B.Sublist ((l.take i).map clr)->(∀ p ∈ (l.take i).map clr,p ∈ A∨p ∈ B) →
  Ev fun k=>drovewaytop_TopJoined.l0 k n l w ((l.take i).map clr) A B i=some true
 |0,i,A,B,hd,hA,hB,hu=>by
  rw [List.take_of_length_le (by omega)] at hA hB hu ⊢;refine (j1_ev hC hA hB hu).step fun k hk=>?_
  rw [drovewaytop_TopJoined.l0,if_neg (by omega)];unfold feuds_Clans.f;rw [if_pos hC,if_pos (hC.sub hA),if_pos (hC.sub hB)];simp only [Option.bind_some,if_true,Int.toNat_natCast];exact hk
 |d+1,i,A,B,hd,hA,hB,hu=>by
  have hi:i<l.length:=by omega
  have h20:l.length≤20:=by have:=hC.1.2.2;rwa [List.length_map] at this
  have hl7:((l.take i).map clr).length≤20:=by rw [List.length_map,List.length_take];omega
  have hAl:=hA.length_le;have hBl:=hB.length_le;have e7:(l.take (i+1)).map clr=(l.take i).map clr ++ [clr l[i]]:=by rw [List.take_succ_eq_append_getElem hi,List.map_append];rfl
  have hw:wrap64 ((i:Int)+1)=((i+1:Nat):Int):=by rw [w64 (by omega) (by omega)];rfl
  have hrd:=y5s hi
  by_cases hp:Int.tmod (shr .u32 w i) 2=1
  ·refine (l0_ev (w:=w) hC d (i+1) (A ++ [clr l[i]]) B (by omega) (by rw [e7];exact hA.append (.refl _)) (by rw [e7];exact hB.trans (List.sublist_append_left _ _)) (fun p hp=>?_)).step fun k hk=>?_
   ·rw [e7,List.mem_append] at hp
    rcases hp with hp|hp
    ·exact (hu p hp).imp (fun h=>List.mem_append_left _ h) id
    ·exact .inl (List.mem_append_right _ hp)
   ·rw [drovewaytop_TopJoined.l0,if_pos (by omega),if_pos (by omega),if_pos (by omega)]
    simp only [Option.bind_some];rw [if_pos hp,if_pos (by omega),hw,hrd];rw [e7] at hk;exact hk
  ·refine (l0_ev (w:=w) hC d (i+1) A (B ++ [clr l[i]]) (by omega) (by rw [e7];exact hA.trans (List.sublist_append_left _ _)) (by rw [e7];exact hB.append (.refl _)) (fun p hp=>?_)).step fun k hk=>?_
   ·rw [e7,List.mem_append] at hp
    rcases hp with hp|hp
    ·exact (hu p hp).imp id (fun h=>List.mem_append_left _ h)
    ·exact .inr (List.mem_append_right _ hp)
   ·rw [drovewaytop_TopJoined.l0,if_pos (by omega),if_pos (by omega),if_pos (by omega)]
    simp only [Option.bind_some];rw [if_neg hp,if_pos (by omega),hw,hrd];rw [e7] at hk;exact hk
theorem law_ev (n:Int) (l:List S28) (w:Int):Ev fun k=>drovewaytop_TopJoined.f k n l w=some true:=by
 obtain ⟨e,he,hv⟩:=ties_ev n l
 by_cases h0:e=0
 ·have hok:=ok_of (he h0)
  obtain ⟨N,rfl⟩:∃ N:Nat,n=(N:Int):=⟨n.toNat,by have:=hok.1.1;omega⟩
  have hl:=l0_ev (w:=w) hok l.length 0 [] [] (Nat.zero_add _) (List.nil_sublist _) (List.nil_sublist _) (fun p hp=>by simp at hp);refine (hv.and hl).mono fun k ⟨h1,h2⟩=>?_
  have h1':drovewayref09_Ties.f k _ l=some e:=h1;unfold drovewaytop_TopJoined.f;rw [h1'];simp only [Option.bind_some];rw [if_pos h0];exact h2
 ·refine (hv.and parted_ev).mono fun k ⟨h1,h2⟩=>?_
  have h1':drovewayref09_Ties.f k _ l=some e:=h1;unfold drovewaytop_TopJoined.f;rw [h1'];simp only [Option.bind_some];rw [if_neg h0,h2];rfl
end Go.Proofs.Ytfgcijifdbgpaaa.Pl
namespace Go.Proofs.Ytfgcijifdbgpaaa
theorem Pure.TopJoined (a0:Int) (l:List P.S28) (a2:Int):∃ k,P.drovewaytop_TopJoined.f k a0 l a2=some true:=(Pl.law_ev a0 l a2).ex
end Go.Proofs.Ytfgcijifdbgpaaa
